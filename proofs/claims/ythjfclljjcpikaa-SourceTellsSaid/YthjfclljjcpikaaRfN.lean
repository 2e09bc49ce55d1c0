/-
 
-/
import Derived.Test.YthjfclljjcpikaaLwB
namespace Go.Proofs.Ythjfclljjcpikaa.Sx
open Go
set_option linter.unusedVariables false
set_option linter.unusedSimpArgs false



set_option maxRecDepth 20000 in
theorem sonone_nil {b : Nat} {l : List HP} {w : World} (hR : Sep (l) w) : CallR Try.prog 31 [.pointer none] w (fun v w' => v = .bool true ∧ Sep (l) w') := by
 refine enter Try.func31 rfl Try.ntmps31 (Nat.le_of_ble_eq_true rfl) ?_; intro aa hS
 refine wp_seq_k ?_; intro K938 hK938
 refine wp_region_lit ?_
 revert aa
 refine qN hR ?_
 intro aa hS
 refine wpList_nil ?_
 refine hK938 _ _ ?_
 refine wp_seq_k ?_; intro K939 hK939
 refine wp_region_lit ?_
 revert aa
 refine qM hR ?_
 refine qA hR rfl (fun _ hS => Yld.eqlNil hS rfl rfl Try.underlying24) ?_
 refine qB (t := 4) true rfl (by rfl) ?_
 refine qM hR ?_
 refine qZ ?_
 refine qZ ?_
 refine qZ ?_
 refine qZ ?_
 refine qZ ?_
 refine qA hR rfl (fun _ hS => Yld.pickT hS rfl rfl) ?_
 refine qN hR ?_
 intro aa hS
 refine wpList_nil ?_
 refine hK939 _ _ ?_
 refine wp_ret ?_
 repeat first | with_reducible refine thenR ?_ | with_reducible refine blockR ?_ | with_reducible refine scopeR ?_
 refine ret1 (fn := Try.f31) (e := .ret) (.inl rfl) Try.results31 hS hR ⟨_, (.tmp rfl), ?_⟩
 exact ⟨rfl, (hR.sub exQ)⟩
set_option maxRecDepth 20000 in
theorem soOpen_nil {a x : Int} {b : Nat} {l : List HP} {w : World} (hR : Sep (l) w) : CallR Try.prog 17 [.pointer none, .int .u32 a, .int .i64 x] w (fun v w' => v = .int .i64 1 ∧ Sep (l) w') := by
 refine enter Try.func17 rfl Try.ntmps17 (Nat.le_of_ble_eq_true rfl) ?_; intro aa hS
 refine wp_seq_k ?_; intro K940 hK940
 refine wp_region_lit ?_
 revert aa
 refine qN hR ?_
 intro aa hS
 refine wpList_nil ?_
 refine hK940 _ _ ?_
 refine wp_seq_k ?_; intro K941 hK941
 refine wp_block ?_
 refine wp_seq_k ?_; intro K942 hK942
 refine wp_region_lit ?_
 revert aa
 refine qM hR ?_
 intro aa hS
 refine sB (Bcall hS rfl Try.call31 (sonone_nil (b := b) hR) (by decide) ?_); clear hS; intro aa ww vv hS hp
 clear hR
 obtain ⟨rfl, hR⟩ := hp
 revert aa
 refine qN hR ?_
 intro aa hS
 refine wpList_nil ?_
 refine hK942 _ _ ?_
 refine condT hS rfl ?_
 refine wp_seq_k ?_; intro K943 hK943
 refine wp_region_lit ?_
 revert aa
 refine qN hR ?_
 intro aa hS
 refine wpList_nil ?_
 refine hK943 _ _ ?_
 refine wp_ret ?_
 repeat first | with_reducible refine thenR ?_ | with_reducible refine blockR ?_ | with_reducible refine scopeR ?_
 refine ret1 (fn := Try.f17) (e := .ret) (.inl rfl) Try.results17 hS hR ⟨_, (.tmp rfl), ?_⟩
 exact ⟨rfl, (hR.sub exQ)⟩
set_option maxRecDepth 20000 in
theorem soClose_nil {a x : Int} {b : Nat} {l : List HP} {w : World} (hR : Sep (l) w) : CallR Try.prog 20 [.pointer none, .int .i64 x] w (fun v w' => v = .tuple [.int .u32 0, .int .i64 1].toArray ∧ Sep (l) w') := by
 refine enter Try.func20 rfl Try.ntmps20 (Nat.le_of_ble_eq_true rfl) ?_; intro aa hS
 refine wp_seq_k ?_; intro K944 hK944
 refine wp_region_lit ?_
 revert aa
 refine qN hR ?_
 refine qN hR ?_
 intro aa hS
 refine wpList_nil ?_
 refine hK944 _ _ ?_
 refine wp_seq_k ?_; intro K945 hK945
 refine wp_block ?_
 refine wp_seq_k ?_; intro K946 hK946
 refine wp_region_lit ?_
 revert aa
 refine qM hR ?_
 intro aa hS
 refine sB (Bcall hS rfl Try.call31 (sonone_nil (b := b) hR) (by decide) ?_); clear hS; intro aa ww vv hS hp
 clear hR
 obtain ⟨rfl, hR⟩ := hp
 revert aa
 refine qN hR ?_
 intro aa hS
 refine wpList_nil ?_
 refine hK946 _ _ ?_
 refine condT hS rfl ?_
 refine wp_seq_k ?_; intro K947 hK947
 refine wp_region_lit ?_
 revert aa
 refine qN hR ?_
 refine qN hR ?_
 intro aa hS
 refine wpList_nil ?_
 refine hK947 _ _ ?_
 refine wp_ret ?_
 repeat first | with_reducible refine thenR ?_ | with_reducible refine blockR ?_ | with_reducible refine scopeR ?_
 refine retN (fn := Try.f20) (e := .ret) (.inl rfl) Try.results20 hS hR ⟨_, .cons (.tmp rfl) (.cons (.tmp rfl) (.nil)), rfl, ?_⟩
 exact ⟨rfl, (hR.sub exQ)⟩
set_option maxRecDepth 20000 in
theorem soOf_nil {a x : Int} {b : Nat} {l : List HP} {w : World} (hR : Sep (l) w) : CallR Try.prog 21 [.pointer none, .int .i64 x] w (fun v w' => v = .tuple [.int .u32 0, .bool false].toArray ∧ Sep (l) w') := by
 refine enter Try.func21 rfl Try.ntmps21 (Nat.le_of_ble_eq_true rfl) ?_; intro aa hS
 refine wp_seq_k ?_; intro K948 hK948
 refine wp_region_lit ?_
 revert aa
 refine qN hR ?_
 refine qN hR ?_
 intro aa hS
 refine wpList_nil ?_
 refine hK948 _ _ ?_
 refine wp_seq_k ?_; intro K949 hK949
 refine wp_seq_k ?_; intro K950 hK950
 refine wp_region_lit ?_
 revert aa
 refine qM hR ?_
 intro aa hS
 refine sB (Bcall hS rfl Try.call31 (sonone_nil (b := b) hR) (by decide) ?_); clear hS; intro aa ww vv hS hp
 clear hR
 obtain ⟨rfl, hR⟩ := hp
 refine wpList_nil ?_
 refine hK950 _ _ ?_
 refine condT hS rfl ?_
 refine wp_seq_k ?_; intro K951 hK951
 refine wp_region_lit ?_
 revert aa
 refine qN hR ?_
 refine qN hR ?_
 intro aa hS
 refine wpList_nil ?_
 refine hK951 _ _ ?_
 refine wp_ret ?_
 repeat first | with_reducible refine thenR ?_ | with_reducible refine blockR ?_ | with_reducible refine scopeR ?_
 refine retN (fn := Try.f21) (e := .ret) (.inl rfl) Try.results21 hS hR ⟨_, .cons (.tmp rfl) (.cons (.tmp rfl) (.nil)), rfl, ?_⟩
 exact ⟨rfl, (hR.sub exQ)⟩
set_option maxRecDepth 20000 in
theorem soRecord_nil {a x : Int} {b : Nat} {l : List HP} {w : World} (hR : Sep (l) w) : CallR Try.prog 13 [.pointer none, .int .u32 a] w (fun v w' => v = .tuple [.int .i64 0, .bool false].toArray ∧ Sep (l) w') := by
 refine enter Try.func13 rfl Try.ntmps13 (Nat.le_of_ble_eq_true rfl) ?_; intro aa hS
 refine wp_seq_k ?_; intro K952 hK952
 refine wp_region_lit ?_
 revert aa
 refine qN hR ?_
 refine qN hR ?_
 intro aa hS
 refine wpList_nil ?_
 refine hK952 _ _ ?_
 refine wp_seq_k ?_; intro K953 hK953
 refine wp_seq_k ?_; intro K954 hK954
 refine wp_region_lit ?_
 revert aa
 refine qM hR ?_
 intro aa hS
 refine sB (Bcall hS rfl Try.call31 (sonone_nil (b := b) hR) (by decide) ?_); clear hS; intro aa ww vv hS hp
 clear hR
 obtain ⟨rfl, hR⟩ := hp
 refine wpList_nil ?_
 refine hK954 _ _ ?_
 refine condT hS rfl ?_
 refine wp_seq_k ?_; intro K955 hK955
 refine wp_region_lit ?_
 revert aa
 refine qN hR ?_
 refine qN hR ?_
 intro aa hS
 refine wpList_nil ?_
 refine hK955 _ _ ?_
 refine wp_ret ?_
 repeat first | with_reducible refine thenR ?_ | with_reducible refine blockR ?_ | with_reducible refine scopeR ?_
 refine retN (fn := Try.f13) (e := .ret) (.inl rfl) Try.results13 hS hR ⟨_, .cons (.tmp rfl) (.cons (.tmp rfl) (.nil)), rfl, ?_⟩
 exact ⟨rfl, (hR.sub exQ)⟩
set_option maxRecDepth 20000 in
theorem soCount_nil {a x : Int} {b : Nat} {l : List HP} {w : World} (hR : Sep (l) w) : CallR Try.prog 14 [.pointer none, .int .u32 a] w (fun v w' => v = .int .i64 0 ∧ Sep (l) w') := by
 refine enter Try.func14 rfl Try.ntmps14 (Nat.le_of_ble_eq_true rfl) ?_; intro aa hS
 refine wp_seq_k ?_; intro K956 hK956
 refine wp_region_lit ?_
 revert aa
 refine qN hR ?_
 intro aa hS
 refine wpList_nil ?_
 refine hK956 _ _ ?_
 refine wp_seq_k ?_; intro K957 hK957
 refine wp_region_lit ?_
 revert aa
 refine qM hR ?_
 refine qM hR ?_
 intro aa hS
 refine sB (Bcall hS rfl Try.call13 (soRecord_nil (b := b) (a := a) (x := 0) hR) (by decide) ?_); clear hS; intro aa ww vv hS hp
 clear hR
 obtain ⟨rfl, hR⟩ := hp
 revert aa
 refine qM hR ?_
 refine qX hR ?_
 refine qX hR ?_
 refine qB (t := 12) false rfl (by rfl) ?_
 refine qN hR ?_
 refine qN hR ?_
 intro aa hS
 refine wpList_nil ?_
 refine hK957 _ _ ?_
 refine wp_seq_k ?_; intro K958 hK958
 refine wp_seq_k ?_; intro K959 hK959
 refine wp_region_lit ?_
 revert aa
 refine qM hR ?_
 refine qA hR rfl (fun _ hS => Yld.not hS rfl) ?_
 intro aa hS
 refine wpList_nil ?_
 refine hK959 _ _ ?_
 refine condT hS rfl ?_
 refine wp_seq_k ?_; intro K960 hK960
 refine wp_region_lit ?_
 revert aa
 refine qN hR ?_
 intro aa hS
 refine wpList_nil ?_
 refine hK960 _ _ ?_
 refine wp_ret ?_
 repeat first | with_reducible refine thenR ?_ | with_reducible refine blockR ?_ | with_reducible refine scopeR ?_
 refine ret1 (fn := Try.f14) (e := .ret) (.inl rfl) Try.results14 hS hR ⟨_, (.tmp rfl), ?_⟩
 exact ⟨rfl, (hR.sub exQ)⟩
set_option maxRecDepth 20000 in
theorem soSlots_nil {a x : Int} {b : Nat} {l : List HP} {w : World} (hR : Sep (l) w) : CallR Try.prog 22 [.pointer none, .int .u32 a] w (fun v w' => v = .slice none 0 0 ∧ Sep (l) w') := by
 refine enter Try.func22 rfl Try.ntmps22 (Nat.le_of_ble_eq_true rfl) ?_; intro aa hS
 refine wp_seq_k ?_; intro K961 hK961
 refine wp_region_lit ?_
 revert aa
 refine qN hR ?_
 intro aa hS
 refine wpList_nil ?_
 refine hK961 _ _ ?_
 refine wp_seq_k ?_; intro K962 hK962
 refine wp_region_lit ?_
 revert aa
 refine qM hR ?_
 refine qM hR ?_
 intro aa hS
 refine sB (Bcall hS rfl Try.call13 (soRecord_nil (b := b) (a := a) (x := 0) hR) (by decide) ?_); clear hS; intro aa ww vv hS hp
 clear hR
 obtain ⟨rfl, hR⟩ := hp
 revert aa
 refine qM hR ?_
 refine qX hR ?_
 refine qX hR ?_
 refine qB (t := 12) false rfl (by rfl) ?_
 refine qN hR ?_
 refine qN hR ?_
 intro aa hS
 refine wpList_nil ?_
 refine hK962 _ _ ?_
 refine wp_seq_k ?_; intro K963 hK963
 refine wp_seq_k ?_; intro K964 hK964
 refine wp_region_lit ?_
 revert aa
 refine qM hR ?_
 refine qA hR rfl (fun _ hS => Yld.not hS rfl) ?_
 intro aa hS
 refine wpList_nil ?_
 refine hK964 _ _ ?_
 refine condT hS rfl ?_
 refine wp_seq_k ?_; intro K965 hK965
 refine wp_region_lit ?_
 revert aa
 refine qN hR ?_
 intro aa hS
 refine wpList_nil ?_
 refine hK965 _ _ ?_
 refine wp_ret ?_
 repeat first | with_reducible refine thenR ?_ | with_reducible refine blockR ?_ | with_reducible refine scopeR ?_
 refine ret1 (fn := Try.f22) (e := .ret) (.inl rfl) Try.results22 hS hR ⟨_, (.tmp rfl), ?_⟩
 exact ⟨rfl, (hR.sub exQ)⟩
set_option maxRecDepth 20000 in
theorem soRoom_nil {a x : Int} {b : Nat} {l : List HP} {w : World} (hR : Sep (l) w) : CallR Try.prog 19 [.pointer none, .int .u32 a] w (fun v w' => v = .int .i64 0 ∧ Sep (l) w') := by
 refine enter Try.func19 rfl Try.ntmps19 (Nat.le_of_ble_eq_true rfl) ?_; intro aa hS
 refine wp_seq_k ?_; intro K966 hK966
 refine wp_region_lit ?_
 revert aa
 refine qN hR ?_
 intro aa hS
 refine wpList_nil ?_
 refine hK966 _ _ ?_
 refine wp_seq_k ?_; intro K967 hK967
 refine wp_seq_k ?_; intro K968 hK968
 refine wp_region_lit ?_
 revert aa
 refine qM hR ?_
 intro aa hS
 refine sB (Bcall hS rfl Try.call31 (sonone_nil (b := b) hR) (by decide) ?_); clear hS; intro aa ww vv hS hp
 clear hR
 obtain ⟨rfl, hR⟩ := hp
 refine wpList_nil ?_
 refine hK968 _ _ ?_
 refine condT hS rfl ?_
 refine wp_seq_k ?_; intro K969 hK969
 refine wp_region_lit ?_
 revert aa
 refine qN hR ?_
 intro aa hS
 refine wpList_nil ?_
 refine hK969 _ _ ?_
 refine wp_ret ?_
 repeat first | with_reducible refine thenR ?_ | with_reducible refine blockR ?_ | with_reducible refine scopeR ?_
 refine ret1 (fn := Try.f19) (e := .ret) (.inl rfl) Try.results19 hS hR ⟨_, (.tmp rfl), ?_⟩
 exact ⟨rfl, (hR.sub exQ)⟩
set_option maxRecDepth 20000 in
theorem soLen_nil {a x : Int} {b : Nat} {l : List HP} {w : World} (hR : Sep (l) w) : CallR Try.prog 18 [.pointer none] w (fun v w' => v = .int .i64 0 ∧ Sep (l) w') := by
 refine enter Try.func18 rfl Try.ntmps18 (Nat.le_of_ble_eq_true rfl) ?_; intro aa hS
 refine wp_seq_k ?_; intro K970 hK970
 refine wp_region_lit ?_
 revert aa
 refine qN hR ?_
 intro aa hS
 refine wpList_nil ?_
 refine hK970 _ _ ?_
 refine wp_seq_k ?_; intro K971 hK971
 refine wp_seq_k ?_; intro K972 hK972
 refine wp_region_lit ?_
 revert aa
 refine qM hR ?_
 intro aa hS
 refine sB (Bcall hS rfl Try.call31 (sonone_nil (b := b) hR) (by decide) ?_); clear hS; intro aa ww vv hS hp
 clear hR
 obtain ⟨rfl, hR⟩ := hp
 refine wpList_nil ?_
 refine hK972 _ _ ?_
 refine condT hS rfl ?_
 refine wp_seq_k ?_; intro K973 hK973
 refine wp_region_lit ?_
 revert aa
 refine qN hR ?_
 intro aa hS
 refine wpList_nil ?_
 refine hK973 _ _ ?_
 refine wp_ret ?_
 repeat first | with_reducible refine thenR ?_ | with_reducible refine blockR ?_ | with_reducible refine scopeR ?_
 refine ret1 (fn := Try.f18) (e := .ret) (.inl rfl) Try.results18 hS hR ⟨_, (.tmp rfl), ?_⟩
 exact ⟨rfl, (hR.sub exQ)⟩
set_option maxRecDepth 20000 in
theorem soAll_nil {a x : Int} {b : Nat} {l : List HP} {w : World} (hR : Sep (l) w) : CallR Try.prog 23 [.pointer none] w (fun v w' => v = .slice none 0 0 ∧ Sep (l) w') := by
 refine enter Try.func23 rfl Try.ntmps23 (Nat.le_of_ble_eq_true rfl) ?_; intro aa hS
 refine wp_seq_k ?_; intro K974 hK974
 refine wp_region_lit ?_
 revert aa
 refine qN hR ?_
 intro aa hS
 refine wpList_nil ?_
 refine hK974 _ _ ?_
 refine wp_seq_k ?_; intro K975 hK975
 refine wp_seq_k ?_; intro K976 hK976
 refine wp_region_lit ?_
 revert aa
 refine qM hR ?_
 intro aa hS
 refine sB (Bcall hS rfl Try.call31 (sonone_nil (b := b) hR) (by decide) ?_); clear hS; intro aa ww vv hS hp
 clear hR
 obtain ⟨rfl, hR⟩ := hp
 refine wpList_nil ?_
 refine hK976 _ _ ?_
 refine condT hS rfl ?_
 refine wp_seq_k ?_; intro K977 hK977
 refine wp_region_lit ?_
 revert aa
 refine qN hR ?_
 intro aa hS
 refine wpList_nil ?_
 refine hK977 _ _ ?_
 refine wp_ret ?_
 repeat first | with_reducible refine thenR ?_ | with_reducible refine blockR ?_ | with_reducible refine scopeR ?_
 refine ret1 (fn := Try.f23) (e := .ret) (.inl rfl) Try.results23 hS hR ⟨_, (.tmp rfl), ?_⟩
 exact ⟨rfl, (hR.sub exQ)⟩
set_option maxRecDepth 20000 in
theorem sonone_zer {b : Nat} {l : List HP} {w : World} (hR : Sep (blk b [.int .i64 0, .slice none 0 0, .pointer none, .pointer none, .pointer none] 51 :: l) w) : CallR Try.prog 31 [.pointer (some ⟨b, 0, none⟩)] w (fun v w' => v = .bool true ∧ Sep (blk b [.int .i64 0, .slice none 0 0, .pointer none, .pointer none, .pointer none] 51 :: l) w') := by
 refine enter Try.func31 rfl Try.ntmps31 (Nat.le_of_ble_eq_true rfl) ?_; intro aa hS
 refine wp_seq_k ?_; intro K978 hK978
 refine wp_region_lit ?_
 revert aa
 refine qN hR ?_
 intro aa hS
 refine wpList_nil ?_
 refine hK978 _ _ ?_
 refine wp_seq_k ?_; intro K979 hK979
 refine wp_region_lit ?_
 revert aa
 refine qM hR ?_
 refine qA hR rfl (fun _ hS => Yld.eqlNil hS rfl rfl Try.underlying24) ?_
 refine qB (t := 4) false rfl (by rfl) ?_
 refine qM hR ?_
 refine qMg hR ?_
 refine qAg hR rfl rfl rfl (fun _ hS => Yld.nilCheck hS rfl) ?_
 refine qAg hR rfl rfl rfl (fun _ hS => Yld.fieldAddr hS rfl 4 Try.underlying51 rfl rfl info49 (by decide)) ?_
 refine qAg hR rfl rfl rfl (fun _ hS => Yld.load1 hS rfl Try.underlying49 rfl rdQ) ?_
 refine qAg hR rfl rfl rfl (fun _ hS => Yld.eqlNil hS rfl rfl Try.underlying49) ?_
 refine qB (t := 10) true rfl (by rfl) ?_
 refine qA hR rfl (fun _ hS => Yld.pickF hS rfl rfl) ?_
 refine qN hR ?_
 intro aa hS
 refine wpList_nil ?_
 refine hK979 _ _ ?_
 refine wp_ret ?_
 repeat first | with_reducible refine thenR ?_ | with_reducible refine blockR ?_ | with_reducible refine scopeR ?_
 refine ret1 (fn := Try.f31) (e := .ret) (.inl rfl) Try.results31 hS hR ⟨_, (.tmp rfl), ?_⟩
 exact ⟨rfl, (hR.sub exQ)⟩
set_option maxRecDepth 20000 in
theorem soOpen_zer {a x : Int} {b : Nat} {l : List HP} {w : World} (hR : Sep (blk b [.int .i64 0, .slice none 0 0, .pointer none, .pointer none, .pointer none] 51 :: l) w) : CallR Try.prog 17 [.pointer (some ⟨b, 0, none⟩), .int .u32 a, .int .i64 x] w (fun v w' => v = .int .i64 1 ∧ Sep (blk b [.int .i64 0, .slice none 0 0, .pointer none, .pointer none, .pointer none] 51 :: l) w') := by
 refine enter Try.func17 rfl Try.ntmps17 (Nat.le_of_ble_eq_true rfl) ?_; intro aa hS
 refine wp_seq_k ?_; intro K980 hK980
 refine wp_region_lit ?_
 revert aa
 refine qN hR ?_
 intro aa hS
 refine wpList_nil ?_
 refine hK980 _ _ ?_
 refine wp_seq_k ?_; intro K981 hK981
 refine wp_block ?_
 refine wp_seq_k ?_; intro K982 hK982
 refine wp_region_lit ?_
 revert aa
 refine qM hR ?_
 intro aa hS
 refine sB (Bcall hS rfl Try.call31 (sonone_zer (b := b) (hR.pk (r := blk b _ _) pkQ)) (by decide) ?_); clear hS; intro aa ww vv hS hp
 clear hR
 obtain ⟨rfl, hR⟩ := hp
 revert aa
 refine qN hR ?_
 intro aa hS
 refine wpList_nil ?_
 refine hK982 _ _ ?_
 refine condT hS rfl ?_
 refine wp_seq_k ?_; intro K983 hK983
 refine wp_region_lit ?_
 revert aa
 refine qN hR ?_
 intro aa hS
 refine wpList_nil ?_
 refine hK983 _ _ ?_
 refine wp_ret ?_
 repeat first | with_reducible refine thenR ?_ | with_reducible refine blockR ?_ | with_reducible refine scopeR ?_
 refine ret1 (fn := Try.f17) (e := .ret) (.inl rfl) Try.results17 hS hR ⟨_, (.tmp rfl), ?_⟩
 exact ⟨rfl, (hR.sub exQ)⟩
set_option maxRecDepth 20000 in
theorem soClose_zer {a x : Int} {b : Nat} {l : List HP} {w : World} (hR : Sep (blk b [.int .i64 0, .slice none 0 0, .pointer none, .pointer none, .pointer none] 51 :: l) w) : CallR Try.prog 20 [.pointer (some ⟨b, 0, none⟩), .int .i64 x] w (fun v w' => v = .tuple [.int .u32 0, .int .i64 1].toArray ∧ Sep (blk b [.int .i64 0, .slice none 0 0, .pointer none, .pointer none, .pointer none] 51 :: l) w') := by
 refine enter Try.func20 rfl Try.ntmps20 (Nat.le_of_ble_eq_true rfl) ?_; intro aa hS
 refine wp_seq_k ?_; intro K984 hK984
 refine wp_region_lit ?_
 revert aa
 refine qN hR ?_
 refine qN hR ?_
 intro aa hS
 refine wpList_nil ?_
 refine hK984 _ _ ?_
 refine wp_seq_k ?_; intro K985 hK985
 refine wp_block ?_
 refine wp_seq_k ?_; intro K986 hK986
 refine wp_region_lit ?_
 revert aa
 refine qM hR ?_
 intro aa hS
 refine sB (Bcall hS rfl Try.call31 (sonone_zer (b := b) (hR.pk (r := blk b _ _) pkQ)) (by decide) ?_); clear hS; intro aa ww vv hS hp
 clear hR
 obtain ⟨rfl, hR⟩ := hp
 revert aa
 refine qN hR ?_
 intro aa hS
 refine wpList_nil ?_
 refine hK986 _ _ ?_
 refine condT hS rfl ?_
 refine wp_seq_k ?_; intro K987 hK987
 refine wp_region_lit ?_
 revert aa
 refine qN hR ?_
 refine qN hR ?_
 intro aa hS
 refine wpList_nil ?_
 refine hK987 _ _ ?_
 refine wp_ret ?_
 repeat first | with_reducible refine thenR ?_ | with_reducible refine blockR ?_ | with_reducible refine scopeR ?_
 refine retN (fn := Try.f20) (e := .ret) (.inl rfl) Try.results20 hS hR ⟨_, .cons (.tmp rfl) (.cons (.tmp rfl) (.nil)), rfl, ?_⟩
 exact ⟨rfl, (hR.sub exQ)⟩
set_option maxRecDepth 20000 in
theorem soOf_zer {a x : Int} {b : Nat} {l : List HP} {w : World} (hR : Sep (blk b [.int .i64 0, .slice none 0 0, .pointer none, .pointer none, .pointer none] 51 :: l) w) : CallR Try.prog 21 [.pointer (some ⟨b, 0, none⟩), .int .i64 x] w (fun v w' => v = .tuple [.int .u32 0, .bool false].toArray ∧ Sep (blk b [.int .i64 0, .slice none 0 0, .pointer none, .pointer none, .pointer none] 51 :: l) w') := by
 refine enter Try.func21 rfl Try.ntmps21 (Nat.le_of_ble_eq_true rfl) ?_; intro aa hS
 refine wp_seq_k ?_; intro K988 hK988
 refine wp_region_lit ?_
 revert aa
 refine qN hR ?_
 refine qN hR ?_
 intro aa hS
 refine wpList_nil ?_
 refine hK988 _ _ ?_
 refine wp_seq_k ?_; intro K989 hK989
 refine wp_seq_k ?_; intro K990 hK990
 refine wp_region_lit ?_
 revert aa
 refine qM hR ?_
 intro aa hS
 refine sB (Bcall hS rfl Try.call31 (sonone_zer (b := b) (hR.pk (r := blk b _ _) pkQ)) (by decide) ?_); clear hS; intro aa ww vv hS hp
 clear hR
 obtain ⟨rfl, hR⟩ := hp
 refine wpList_nil ?_
 refine hK990 _ _ ?_
 refine condT hS rfl ?_
 refine wp_seq_k ?_; intro K991 hK991
 refine wp_region_lit ?_
 revert aa
 refine qN hR ?_
 refine qN hR ?_
 intro aa hS
 refine wpList_nil ?_
 refine hK991 _ _ ?_
 refine wp_ret ?_
 repeat first | with_reducible refine thenR ?_ | with_reducible refine blockR ?_ | with_reducible refine scopeR ?_
 refine retN (fn := Try.f21) (e := .ret) (.inl rfl) Try.results21 hS hR ⟨_, .cons (.tmp rfl) (.cons (.tmp rfl) (.nil)), rfl, ?_⟩
 exact ⟨rfl, (hR.sub exQ)⟩
set_option maxRecDepth 20000 in
theorem soRecord_zer {a x : Int} {b : Nat} {l : List HP} {w : World} (hR : Sep (blk b [.int .i64 0, .slice none 0 0, .pointer none, .pointer none, .pointer none] 51 :: l) w) : CallR Try.prog 13 [.pointer (some ⟨b, 0, none⟩), .int .u32 a] w (fun v w' => v = .tuple [.int .i64 0, .bool false].toArray ∧ Sep (blk b [.int .i64 0, .slice none 0 0, .pointer none, .pointer none, .pointer none] 51 :: l) w') := by
 refine enter Try.func13 rfl Try.ntmps13 (Nat.le_of_ble_eq_true rfl) ?_; intro aa hS
 refine wp_seq_k ?_; intro K992 hK992
 refine wp_region_lit ?_
 revert aa
 refine qN hR ?_
 refine qN hR ?_
 intro aa hS
 refine wpList_nil ?_
 refine hK992 _ _ ?_
 refine wp_seq_k ?_; intro K993 hK993
 refine wp_seq_k ?_; intro K994 hK994
 refine wp_region_lit ?_
 revert aa
 refine qM hR ?_
 intro aa hS
 refine sB (Bcall hS rfl Try.call31 (sonone_zer (b := b) (hR.pk (r := blk b _ _) pkQ)) (by decide) ?_); clear hS; intro aa ww vv hS hp
 clear hR
 obtain ⟨rfl, hR⟩ := hp
 refine wpList_nil ?_
 refine hK994 _ _ ?_
 refine condT hS rfl ?_
 refine wp_seq_k ?_; intro K995 hK995
 refine wp_region_lit ?_
 revert aa
 refine qN hR ?_
 refine qN hR ?_
 intro aa hS
 refine wpList_nil ?_
 refine hK995 _ _ ?_
 refine wp_ret ?_
 repeat first | with_reducible refine thenR ?_ | with_reducible refine blockR ?_ | with_reducible refine scopeR ?_
 refine retN (fn := Try.f13) (e := .ret) (.inl rfl) Try.results13 hS hR ⟨_, .cons (.tmp rfl) (.cons (.tmp rfl) (.nil)), rfl, ?_⟩
 exact ⟨rfl, (hR.sub exQ)⟩
set_option maxRecDepth 20000 in
theorem soCount_zer {a x : Int} {b : Nat} {l : List HP} {w : World} (hR : Sep (blk b [.int .i64 0, .slice none 0 0, .pointer none, .pointer none, .pointer none] 51 :: l) w) : CallR Try.prog 14 [.pointer (some ⟨b, 0, none⟩), .int .u32 a] w (fun v w' => v = .int .i64 0 ∧ Sep (blk b [.int .i64 0, .slice none 0 0, .pointer none, .pointer none, .pointer none] 51 :: l) w') := by
 refine enter Try.func14 rfl Try.ntmps14 (Nat.le_of_ble_eq_true rfl) ?_; intro aa hS
 refine wp_seq_k ?_; intro K996 hK996
 refine wp_region_lit ?_
 revert aa
 refine qN hR ?_
 intro aa hS
 refine wpList_nil ?_
 refine hK996 _ _ ?_
 refine wp_seq_k ?_; intro K997 hK997
 refine wp_region_lit ?_
 revert aa
 refine qM hR ?_
 refine qM hR ?_
 intro aa hS
 refine sB (Bcall hS rfl Try.call13 (soRecord_zer (b := b) (a := a) (x := 0) (hR.pk (r := blk b _ _) pkQ)) (by decide) ?_); clear hS; intro aa ww vv hS hp
 clear hR
 obtain ⟨rfl, hR⟩ := hp
 revert aa
 refine qM hR ?_
 refine qX hR ?_
 refine qX hR ?_
 refine qB (t := 12) false rfl (by rfl) ?_
 refine qN hR ?_
 refine qN hR ?_
 intro aa hS
 refine wpList_nil ?_
 refine hK997 _ _ ?_
 refine wp_seq_k ?_; intro K998 hK998
 refine wp_seq_k ?_; intro K999 hK999
 refine wp_region_lit ?_
 revert aa
 refine qM hR ?_
 refine qA hR rfl (fun _ hS => Yld.not hS rfl) ?_
 intro aa hS
 refine wpList_nil ?_
 refine hK999 _ _ ?_
 refine condT hS rfl ?_
 refine wp_seq_k ?_; intro K1000 hK1000
 refine wp_region_lit ?_
 revert aa
 refine qN hR ?_
 intro aa hS
 refine wpList_nil ?_
 refine hK1000 _ _ ?_
 refine wp_ret ?_
 repeat first | with_reducible refine thenR ?_ | with_reducible refine blockR ?_ | with_reducible refine scopeR ?_
 refine ret1 (fn := Try.f14) (e := .ret) (.inl rfl) Try.results14 hS hR ⟨_, (.tmp rfl), ?_⟩
 exact ⟨rfl, (hR.sub exQ)⟩
set_option maxRecDepth 20000 in
theorem soSlots_zer {a x : Int} {b : Nat} {l : List HP} {w : World} (hR : Sep (blk b [.int .i64 0, .slice none 0 0, .pointer none, .pointer none, .pointer none] 51 :: l) w) : CallR Try.prog 22 [.pointer (some ⟨b, 0, none⟩), .int .u32 a] w (fun v w' => v = .slice none 0 0 ∧ Sep (blk b [.int .i64 0, .slice none 0 0, .pointer none, .pointer none, .pointer none] 51 :: l) w') := by
 refine enter Try.func22 rfl Try.ntmps22 (Nat.le_of_ble_eq_true rfl) ?_; intro aa hS
 refine wp_seq_k ?_; intro K1001 hK1001
 refine wp_region_lit ?_
 revert aa
 refine qN hR ?_
 intro aa hS
 refine wpList_nil ?_
 refine hK1001 _ _ ?_
 refine wp_seq_k ?_; intro K1002 hK1002
 refine wp_region_lit ?_
 revert aa
 refine qM hR ?_
 refine qM hR ?_
 intro aa hS
 refine sB (Bcall hS rfl Try.call13 (soRecord_zer (b := b) (a := a) (x := 0) (hR.pk (r := blk b _ _) pkQ)) (by decide) ?_); clear hS; intro aa ww vv hS hp
 clear hR
 obtain ⟨rfl, hR⟩ := hp
 revert aa
 refine qM hR ?_
 refine qX hR ?_
 refine qX hR ?_
 refine qB (t := 12) false rfl (by rfl) ?_
 refine qN hR ?_
 refine qN hR ?_
 intro aa hS
 refine wpList_nil ?_
 refine hK1002 _ _ ?_
 refine wp_seq_k ?_; intro K1003 hK1003
 refine wp_seq_k ?_; intro K1004 hK1004
 refine wp_region_lit ?_
 revert aa
 refine qM hR ?_
 refine qA hR rfl (fun _ hS => Yld.not hS rfl) ?_
 intro aa hS
 refine wpList_nil ?_
 refine hK1004 _ _ ?_
 refine condT hS rfl ?_
 refine wp_seq_k ?_; intro K1005 hK1005
 refine wp_region_lit ?_
 revert aa
 refine qN hR ?_
 intro aa hS
 refine wpList_nil ?_
 refine hK1005 _ _ ?_
 refine wp_ret ?_
 repeat first | with_reducible refine thenR ?_ | with_reducible refine blockR ?_ | with_reducible refine scopeR ?_
 refine ret1 (fn := Try.f22) (e := .ret) (.inl rfl) Try.results22 hS hR ⟨_, (.tmp rfl), ?_⟩
 exact ⟨rfl, (hR.sub exQ)⟩
set_option maxRecDepth 20000 in
theorem soRoom_zer {a x : Int} {b : Nat} {l : List HP} {w : World} (hR : Sep (blk b [.int .i64 0, .slice none 0 0, .pointer none, .pointer none, .pointer none] 51 :: l) w) : CallR Try.prog 19 [.pointer (some ⟨b, 0, none⟩), .int .u32 a] w (fun v w' => v = .int .i64 0 ∧ Sep (blk b [.int .i64 0, .slice none 0 0, .pointer none, .pointer none, .pointer none] 51 :: l) w') := by
 refine enter Try.func19 rfl Try.ntmps19 (Nat.le_of_ble_eq_true rfl) ?_; intro aa hS
 refine wp_seq_k ?_; intro K1006 hK1006
 refine wp_region_lit ?_
 revert aa
 refine qN hR ?_
 intro aa hS
 refine wpList_nil ?_
 refine hK1006 _ _ ?_
 refine wp_seq_k ?_; intro K1007 hK1007
 refine wp_seq_k ?_; intro K1008 hK1008
 refine wp_region_lit ?_
 revert aa
 refine qM hR ?_
 intro aa hS
 refine sB (Bcall hS rfl Try.call31 (sonone_zer (b := b) (hR.pk (r := blk b _ _) pkQ)) (by decide) ?_); clear hS; intro aa ww vv hS hp
 clear hR
 obtain ⟨rfl, hR⟩ := hp
 refine wpList_nil ?_
 refine hK1008 _ _ ?_
 refine condT hS rfl ?_
 refine wp_seq_k ?_; intro K1009 hK1009
 refine wp_region_lit ?_
 revert aa
 refine qN hR ?_
 intro aa hS
 refine wpList_nil ?_
 refine hK1009 _ _ ?_
 refine wp_ret ?_
 repeat first | with_reducible refine thenR ?_ | with_reducible refine blockR ?_ | with_reducible refine scopeR ?_
 refine ret1 (fn := Try.f19) (e := .ret) (.inl rfl) Try.results19 hS hR ⟨_, (.tmp rfl), ?_⟩
 exact ⟨rfl, (hR.sub exQ)⟩
set_option maxRecDepth 20000 in
theorem soLen_zer {a x : Int} {b : Nat} {l : List HP} {w : World} (hR : Sep (blk b [.int .i64 0, .slice none 0 0, .pointer none, .pointer none, .pointer none] 51 :: l) w) : CallR Try.prog 18 [.pointer (some ⟨b, 0, none⟩)] w (fun v w' => v = .int .i64 0 ∧ Sep (blk b [.int .i64 0, .slice none 0 0, .pointer none, .pointer none, .pointer none] 51 :: l) w') := by
 refine enter Try.func18 rfl Try.ntmps18 (Nat.le_of_ble_eq_true rfl) ?_; intro aa hS
 refine wp_seq_k ?_; intro K1010 hK1010
 refine wp_region_lit ?_
 revert aa
 refine qN hR ?_
 intro aa hS
 refine wpList_nil ?_
 refine hK1010 _ _ ?_
 refine wp_seq_k ?_; intro K1011 hK1011
 refine wp_seq_k ?_; intro K1012 hK1012
 refine wp_region_lit ?_
 revert aa
 refine qM hR ?_
 intro aa hS
 refine sB (Bcall hS rfl Try.call31 (sonone_zer (b := b) (hR.pk (r := blk b _ _) pkQ)) (by decide) ?_); clear hS; intro aa ww vv hS hp
 clear hR
 obtain ⟨rfl, hR⟩ := hp
 refine wpList_nil ?_
 refine hK1012 _ _ ?_
 refine condT hS rfl ?_
 refine wp_seq_k ?_; intro K1013 hK1013
 refine wp_region_lit ?_
 revert aa
 refine qN hR ?_
 intro aa hS
 refine wpList_nil ?_
 refine hK1013 _ _ ?_
 refine wp_ret ?_
 repeat first | with_reducible refine thenR ?_ | with_reducible refine blockR ?_ | with_reducible refine scopeR ?_
 refine ret1 (fn := Try.f18) (e := .ret) (.inl rfl) Try.results18 hS hR ⟨_, (.tmp rfl), ?_⟩
 exact ⟨rfl, (hR.sub exQ)⟩
set_option maxRecDepth 20000 in
theorem soAll_zer {a x : Int} {b : Nat} {l : List HP} {w : World} (hR : Sep (blk b [.int .i64 0, .slice none 0 0, .pointer none, .pointer none, .pointer none] 51 :: l) w) : CallR Try.prog 23 [.pointer (some ⟨b, 0, none⟩)] w (fun v w' => v = .slice none 0 0 ∧ Sep (blk b [.int .i64 0, .slice none 0 0, .pointer none, .pointer none, .pointer none] 51 :: l) w') := by
 refine enter Try.func23 rfl Try.ntmps23 (Nat.le_of_ble_eq_true rfl) ?_; intro aa hS
 refine wp_seq_k ?_; intro K1014 hK1014
 refine wp_region_lit ?_
 revert aa
 refine qN hR ?_
 intro aa hS
 refine wpList_nil ?_
 refine hK1014 _ _ ?_
 refine wp_seq_k ?_; intro K1015 hK1015
 refine wp_seq_k ?_; intro K1016 hK1016
 refine wp_region_lit ?_
 revert aa
 refine qM hR ?_
 intro aa hS
 refine sB (Bcall hS rfl Try.call31 (sonone_zer (b := b) (hR.pk (r := blk b _ _) pkQ)) (by decide) ?_); clear hS; intro aa ww vv hS hp
 clear hR
 obtain ⟨rfl, hR⟩ := hp
 refine wpList_nil ?_
 refine hK1016 _ _ ?_
 refine condT hS rfl ?_
 refine wp_seq_k ?_; intro K1017 hK1017
 refine wp_region_lit ?_
 revert aa
 refine qN hR ?_
 intro aa hS
 refine wpList_nil ?_
 refine hK1017 _ _ ?_
 refine wp_ret ?_
 repeat first | with_reducible refine thenR ?_ | with_reducible refine blockR ?_ | with_reducible refine scopeR ?_
 refine ret1 (fn := Try.f23) (e := .ret) (.inl rfl) Try.results23 hS hR ⟨_, (.tmp rfl), ?_⟩
 exact ⟨rfl, (hR.sub exQ)⟩
end Go.Proofs.Ythjfclljjcpikaa.Sx
