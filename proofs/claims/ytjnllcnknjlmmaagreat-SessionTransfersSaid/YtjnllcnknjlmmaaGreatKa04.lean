/- Contracts and plain facts for the laws of layer 41. No condition. -/
import Derived.Test.YtjnllcnknjlmmaaGreatKa03
set_option linter.unusedSimpArgs false
set_option linter.unusedVariables false
set_option maxRecDepth 100000
set_option maxHeartbeats 4000000
namespace Go.Proofs.YtjnllcnknjlmmaaGreat
open Go Go.RowKit
namespace Pd
open Se (St At Reads Cell)
variable {w0 w:World} {X:List Nat} {L:List At}
attribute [local irreducible] Calls
abbrev iv(n:Nat):Value:=.int .i64 (n:Int)
abbrev fnv(n:Nat):Value:=.func (.func n) #[] #[]
def fv(f:Fm):Value:=.agg #[.bool f.hd,.bool f.dd,.int .i64 f.al]
def valF:Nat->Value
 | 0=>fnv 192
 | 1=>fnv 195
 | 9=>fnv 203
 | 2|3|4|5|6|7=>fnv 196
 | _=>.nilFunc
def wriF:Nat->Value
 | 0|1=>fnv 193
 | 2|3=>fnv 197
 | 4|5=>fnv 199
 | 6|7=>fnv 201
 | 9=>fnv 204
 | _=>.nilFunc
def reaF:Nat->Value
 | 0|1=>fnv 194
 | 2|3=>fnv 198
 | 4|5=>fnv 200
 | 6|7|9=>fnv 202
 | _=>.nilFunc
def shV:Nat->List Value
 | 0=>[.int .i64 128,.int .i64 0,.int .i64 0,.int .i64 0,fnv 192,fnv 193,fnv 194]
 | 1=>[.int .i64 128,.int .i64 0,.int .i64 0,.int .i64 0,fnv 195,fnv 193,fnv 194]
 | 2=>[.int .i64 24,.int .i64 0,.int .i64 0,.int .i64 128,fnv 196,fnv 197,fnv 198]
 | 3=>[.int .i64 24,.int .i64 0,.int .i64 0,.int .i64 128,fnv 196,fnv 197,fnv 198]
 | 4=>[.int .i64 72,.int .i64 64,.int .i64 0,.int .i64 1048576,fnv 196,fnv 199,fnv 200]
 | 5=>[.int .i64 24,.int .i64 16,.int .i64 0,.int .i64 0,fnv 196,fnv 199,fnv 200]
 | 6=>[.int .i64 24,.int .i64 0,.int .i64 1,.int .i64 1048576,fnv 196,fnv 201,fnv 202]
 | 7=>[.int .i64 24,.int .i64 0,.int .i64 1,.int .i64 1048576,fnv 196,fnv 201,fnv 202]
 | 9=>[.int .i64 24,.int .i64 0,.int .i64 0,.int .i64 0,fnv 203,fnv 204,fnv 202]
 | _=>[.int .i64 0,.int .i64 0,.int .i64 0,.int .i64 0,.nilFunc,.nilFunc,.nilFunc]
theorem shV_eq(k:Nat):shV k=[iv (hdr k),iv (entl k),iv (least k),iv (most k),valF k,wriF k,reaF k]:=by
 unfold shV
 split <;> first|rfl|skip
 unfold hdr entl least most valF wriF reaF
 split <;> simp_all
theorem shV_one(k:Nat):∀ v∈shV k,v.oneCell'=true:=by
 intro v hv;rw[shV_eq] at hv;simp only[List.mem_cons,List.not_mem_nil,or_false] at hv
 rcases hv with rfl|rfl|rfl|rfl|rfl|rfl|rfl
 ·rfl
 ·rfl
 ·rfl
 ·rfl
 ·unfold valF;split <;> rfl
 ·unfold wriF;split <;> rfl
 ·unfold reaF;split <;> rfl
def shapesV:List Value:=(List.range 10).flatMap shV
theorem bsh0(w:World):(Instr.build 217 #[(0,.int .i64 128),(1,.int .i64 0),(2,.int .i64 0),(3,.int .i64 0),(4,fnv 192),(5,fnv 193),(6,fnv 194)]).run Tryz.prog w=.ok (.agg (shV 0).toArray) w:=by kernel_rfl
theorem bsh1(w:World):(Instr.build 217 #[(0,.int .i64 128),(1,.int .i64 0),(2,.int .i64 0),(3,.int .i64 0),(4,fnv 195),(5,fnv 193),(6,fnv 194)]).run Tryz.prog w=.ok (.agg (shV 1).toArray) w:=by kernel_rfl
theorem bsh2(w:World):(Instr.build 217 #[(0,.int .i64 24),(1,.int .i64 0),(2,.int .i64 0),(3,.int .i64 128),(4,fnv 196),(5,fnv 197),(6,fnv 198)]).run Tryz.prog w=.ok (.agg (shV 2).toArray) w:=by kernel_rfl
theorem bsh3(w:World):(Instr.build 217 #[(0,.int .i64 24),(1,.int .i64 0),(2,.int .i64 0),(3,.int .i64 128),(4,fnv 196),(5,fnv 197),(6,fnv 198)]).run Tryz.prog w=.ok (.agg (shV 3).toArray) w:=by kernel_rfl
theorem bsh4(w:World):(Instr.build 217 #[(0,.int .i64 72),(1,.int .i64 64),(2,.int .i64 0),(3,.int .i64 1048576),(4,fnv 196),(5,fnv 199),(6,fnv 200)]).run Tryz.prog w=.ok (.agg (shV 4).toArray) w:=by kernel_rfl
theorem bsh5(w:World):(Instr.build 217 #[(0,.int .i64 24),(1,.int .i64 16),(2,.int .i64 0),(3,.int .i64 0),(4,fnv 196),(5,fnv 199),(6,fnv 200)]).run Tryz.prog w=.ok (.agg (shV 5).toArray) w:=by kernel_rfl
theorem bsh6(w:World):(Instr.build 217 #[(0,.int .i64 24),(1,.int .i64 0),(2,.int .i64 1),(3,.int .i64 1048576),(4,fnv 196),(5,fnv 201),(6,fnv 202)]).run Tryz.prog w=.ok (.agg (shV 6).toArray) w:=by kernel_rfl
theorem bsh7(w:World):(Instr.build 217 #[(0,.int .i64 24),(1,.int .i64 0),(2,.int .i64 1),(3,.int .i64 1048576),(4,fnv 196),(5,fnv 201),(6,fnv 202)]).run Tryz.prog w=.ok (.agg (shV 7).toArray) w:=by kernel_rfl
theorem bsh9(w:World):(Instr.build 217 #[(0,.int .i64 24),(1,.int .i64 0),(2,.int .i64 0),(3,.int .i64 0),(4,fnv 203),(5,fnv 204),(6,fnv 202)]).run Tryz.prog w=.ok (.agg (shV 9).toArray) w:=by kernel_rfl
theorem bshz(w:World):(Instr.build 217 #[]).run Tryz.prog w=.ok (.agg (shV 8).toArray) w:=by kernel_rfl
theorem shV_none(k:Nat)(hk:hdr k=0):shV k=shV 8:=by
 unfold hdr at hk
 split at hk
 all_goals first|omega|skip
 unfold shV
 split <;> simp_all
theorem bshs(w:World):(Instr.build 239 #[(0,.agg (shV 0).toArray),(1,.agg (shV 1).toArray),(2,.agg (shV 2).toArray),(3,.agg (shV 3).toArray),(4,.agg (shV 4).toArray),(5,.agg (shV 5).toArray),(6,.agg (shV 6).toArray),(7,.agg (shV 7).toArray),(9,.agg (shV 9).toArray)]).run Tryz.prog w=.ok (.agg shapesV.toArray) w:=by kernel_rfl
theorem shapes_len:shapesV.length=70:=by decide +kernel
theorem shapes_one:∀ v∈shapesV,v.oneCell'=true:=by
 intro v hv
 obtain⟨k,_,hk⟩:=List.mem_flatMap.1 hv
 exact shV_one k v hk
theorem zShapes:∃ Z,(Tryz.prog.info? 239).bind (fun i=>i.zero.map (·.cells.toList))=some Z/\Z.length=70:=⟨(List.range 10).flatMap (fun _=>shV 8),by kernel_rfl,by decide +kernel⟩
theorem zShape:(Tryz.prog.info? 217).bind (fun i=>i.zero.map (·.cells.toList))=some (shV 8):=by kernel_rfl
theorem shapes_at0:(shapesV.drop (7*0)).take 7=shV 0:=by kernel_rfl
theorem shapes_at1:(shapesV.drop (7*1)).take 7=shV 1:=by kernel_rfl
theorem shapes_at2:(shapesV.drop (7*2)).take 7=shV 2:=by kernel_rfl
theorem shapes_at3:(shapesV.drop (7*3)).take 7=shV 3:=by kernel_rfl
theorem shapes_at4:(shapesV.drop (7*4)).take 7=shV 4:=by kernel_rfl
theorem shapes_at5:(shapesV.drop (7*5)).take 7=shV 5:=by kernel_rfl
theorem shapes_at6:(shapesV.drop (7*6)).take 7=shV 6:=by kernel_rfl
theorem shapes_at7:(shapesV.drop (7*7)).take 7=shV 7:=by kernel_rfl
theorem shapes_at8:(shapesV.drop (7*8)).take 7=shV 8:=by kernel_rfl
theorem shapes_at9:(shapesV.drop (7*9)).take 7=shV 9:=by kernel_rfl
theorem shapes_at(k:Nat)(hk:k<10):(shapesV.drop (7*k)).take 7=shV k:=by
 have:k=0\/k=1\/k=2\/k=3\/k=4\/k=5\/k=6\/k=7\/k=8\/k=9:=by omega
 rcases this with h|h|h|h|h|h|h|h|h|h <;> rw[h]
 ·exact shapes_at0
 ·exact shapes_at1
 ·exact shapes_at2
 ·exact shapes_at3
 ·exact shapes_at4
 ·exact shapes_at5
 ·exact shapes_at6
 ·exact shapes_at7
 ·exact shapes_at8
 ·exact shapes_at9
theorem shapes_hdr(k:Nat)(hk:k<10):shapesV[7*k]? = some (iv (hdr k)):=by
 have h:=congrArg (fun l=>l[0]?) (shapes_at k hk)
 simpa [List.getElem?_take_of_lt,List.getElem?_drop,shV_eq] using h
attribute [local irreducible] shV shapesV
theorem stopHere{p:Prop}(h:p/\True):p:=h.1
theorem shapes_st(hs:St w0 X L w){S:List Value}(hS:S=shapesV):Calls Tryz.prog 163 #[] w fun e w'=>e=.returned (.agg S.toArray)/\St w0 X L w':=by
 obtain⟨Z,hZ,hZL⟩:=zShapes
 have HZ:=Lib.hid hZ
 have ZL:=Lib.hid hZL
 have SO:=Lib.hid (show ∀ v∈S,v.oneCell'=true by rw[hS];exact shapes_one)
 have SL:=Lib.hid (show S.length=70 by rw[hS];exact shapes_len)
 have B:Hid (∀ w:World,(Instr.build 239 #[(0,.agg (shV 0).toArray),(1,.agg (shV 1).toArray),(2,.agg (shV 2).toArray),(3,.agg (shV 3).toArray),(4,.agg (shV 4).toArray),(5,.agg (shV 5).toArray),(6,.agg (shV 6).toArray),(7,.agg (shV 7).toArray),(9,.agg (shV 9).toArray)]).run Tryz.prog w=.ok (.agg S.toArray) w):=Lib.hid (by rw[hS];exact bshs)
 clear hZ hZL hS
 go_enter Tryz.func163,Tryz.ntmps163
 go_wp2_with (first|((with_reducible refine Se.iL 0 ?_);(refine Se.Al hs rfl (HZ.out) ?_;clear hs;rintro w g0-hs))|((with_reducible refine Se.iL 1 ?_);(refine Se.Bd rfl rfl (bsh0 _) ?_))|((with_reducible refine Se.iL 2 ?_);(refine Se.Bd rfl rfl (bsh1 _) ?_))|((with_reducible refine Se.iL 3 ?_);(refine Se.Bd rfl rfl (bsh2 _) ?_))|((with_reducible refine Se.iL 4 ?_);(refine Se.Bd rfl rfl (bsh3 _) ?_))|((with_reducible refine Se.iL 5 ?_);(refine Se.Bd rfl rfl (bsh4 _) ?_))|((with_reducible refine Se.iL 6 ?_);(refine Se.Bd rfl rfl (bsh5 _) ?_))|((with_reducible refine Se.iL 7 ?_);(refine Se.Bd rfl rfl (bsh6 _) ?_))|((with_reducible refine Se.iL 8 ?_);(refine Se.Bd rfl rfl (bsh7 _) ?_))|((with_reducible refine Se.iL 9 ?_);(refine Se.Bd rfl rfl (bsh9 _) ?_))|(with_reducible refine Se.isL (o:=⟨some 10,_,_,_,_,_⟩) ?_;refine stopHere ?_))
 refine⟨Se.toL rfl (Se.bd (o:=⟨some 10,_,_,_,_,_⟩) (vs:=[(0,.agg (shV 0).toArray),(1,.agg (shV 1).toArray),(2,.agg (shV 2).toArray),(3,.agg (shV 3).toArray),(4,.agg (shV 4).toArray),(5,.agg (shV 5).toArray),(6,.agg (shV 6).toArray),(7,.agg (shV 7).toArray),(9,.agg (shV 9).toArray)]) (v:=.agg S.toArray) rfl (by rfl) (B.out _) ?_),trivial⟩
 go_wp2_with (first|((with_reducible refine Se.iN ?_);(refine Se.Sow 0 hs rfl rfl rfl rfl (SO.out) (by rw[SL.out];kernel_rfl) (by rw[SL.out,ZL.out]) ?_;clear hs;intro w hs;try simp only[pS] at hs)))
 refine Li.bodyPost_blk (by rfl) (by rfl) (hs.hold (.blk g0 239 S) (by simp)) Tryz.underlying239 rfl (by rw[SL.out];kernel_rfl) rfl ⟨rfl,?_⟩;exact hs.drop
theorem plain_any(k:Nat)(w:World):Calls Tryz.prog 164 #[.int .u8 k] w fun e w'=>e=.returned (.bool (decide (k<=3)))/\w'=w:=by
 go_enter Tryz.func164,Tryz.ntmps164
 go_wp2
 go_ret;refine⟨?_,rfl⟩
 show Ending.returned (.bool (decide ((k:Int)<=3)))=_
 congr 2
 simp only[decide_eq_decide];omega
theorem carries_any(k:Nat)(w:World):Calls Tryz.prog 228 #[.int .u8 k] w fun e w'=>e=.returned (.bool (decide (k=6\/k=7)))/\w'=w:=by
 have h67:k=6\/k=7\/(((k:Int)==6)=false/\((k:Int)==7)=false/\¬ (k=6\/k=7)):=by
  by_cases h6:k=6
  ·exact .inl h6
  ·by_cases h7:k=7
   ·exact .inr (.inl h7)
   ·exact .inr (.inr ⟨by simp;omega,by simp;omega,by omega⟩)
 rcases h67 with rfl|rfl|⟨h1,h2,h3⟩
 ·go_enter Tryz.func228,Tryz.ntmps228
  go_wp2
  go_ret;exact⟨rfl,rfl⟩
 ·go_enter Tryz.func228,Tryz.ntmps228
  go_wp2
  go_ret;exact⟨rfl,rfl⟩
 ·have H3:=Lib.hid h3
  clear h3
  go_enter Tryz.func228,Tryz.ntmps228
  go_wp2
  go_ret;refine⟨?_,rfl⟩;rw[decide_eq_false H3.out]
  first|rfl|(rw[h1,h2])
theorem validFraming_st(hs:St w0 X L w)(f:Fm):Calls Tryz.prog 161 #[fv f] w fun e w'=>e=.returned (.bool (framed f))/\St w0 X L w':=by
 obtain⟨hd,dd,al⟩:=f
 have HF:Hid (framed ⟨hd,dd,al⟩=decide (0<=al/\al<=31)):=Lib.hid rfl
 have hc:(decide (0<=al)=false/\¬ (0<=al/\al<=31))\/(0<=al/\decide (al<=31)=false/\¬ (0<=al/\al<=31))\/(0<=al/\al<=31/\(0<=al/\al<=31)):=by
  by_cases h1:0<=al
  ·by_cases h2:al<=31
   ·exact .inr (.inr ⟨h1,h2,h1,h2⟩)
   ·exact .inr (.inl ⟨h1,by simpa using h2,fun h=>h2 h.2⟩)
  ·exact .inl ⟨by simpa using h1,fun h=>h1 h.1⟩
 unfold fv
 dsimp only
 rcases hc with ⟨h1,h3⟩|⟨h1,h2,h3⟩|⟨h1,h2,h3⟩
 ·have H3:=Lib.hid h3
  clear h3
  go_enter Tryz.func161,Tryz.ntmps161
  go_wp2_with (first|((with_reducible refine Se.iL 4 ?_);(refine Se.Ld hs rfl rfl (Cell.blk 0 rfl rfl) ?_))|((first|with_reducible refine Se.ab hs ?_|with_reducible refine Se.abc hs ?_);clear hs;(first|(generalize w.heap.size=g1;intro w hs))))
  go_ret;rw[HF.out,decide_eq_false H3.out];exact⟨by simp_all,hs.drop⟩
 ·have H3:=Lib.hid h3
  clear h3
  go_enter Tryz.func161,Tryz.ntmps161
  go_wp2_with (first|((with_reducible refine Se.iL 4 ?_);(refine Se.Ld hs rfl rfl (Cell.blk 0 rfl rfl) ?_))|((with_reducible refine Se.iL 8 ?_);(refine Se.Ld hs rfl rfl (Cell.blk 0 rfl rfl) ?_))|((first|with_reducible refine Se.ab hs ?_|with_reducible refine Se.abc hs ?_);clear hs;(first|(generalize w.heap.size=g1;intro w hs))))
  go_ret;rw[HF.out,decide_eq_false H3.out];exact⟨by simp_all,hs.drop⟩
 ·have H3:=Lib.hid h3
  clear h3
  go_enter Tryz.func161,Tryz.ntmps161
  go_wp2_with (first|((with_reducible refine Se.iL 4 ?_);(refine Se.Ld hs rfl rfl (Cell.blk 0 rfl rfl) ?_))|((with_reducible refine Se.iL 8 ?_);(refine Se.Ld hs rfl rfl (Cell.blk 0 rfl rfl) ?_))|((first|with_reducible refine Se.ab hs ?_|with_reducible refine Se.abc hs ?_);clear hs;(first|(generalize w.heap.size=g1;intro w hs))))
  go_ret;rw[HF.out,decide_eq_true H3.out];exact⟨by simp_all,hs.drop⟩
theorem must_any(b:Bool)(n:Nat)(w:World):Calls Tryz.prog 227 #[.bool b,iv n] w fun e w'=>e=(if b then .returned (.tuple #[]) else .panicked [{ v:=.iface 30 (iv n),recovered:=false }])/\w'=w:=by
 cases b with
 | true =>
  go_enter Tryz.func227,Tryz.ntmps227
  go_wp2
  go_end0
  exact⟨rfl,rfl⟩
 | false =>
  go_enter Tryz.func227,Tryz.ntmps227
  go_wp2
  exact⟨rfl,rfl,rfl⟩
end Pd
end Go.Proofs.YtjnllcnknjlmmaaGreat
namespace Go.Proofs.YtjnllcnknjlmmaaGreat
open Go Go.RowKit
namespace Pd
open Se (St At Reads Cell)
variable {w0 w:World} {X:List Nat} {L:List At}
attribute [local irreducible] Calls
theorem kinds_cases(k:Nat):(k=0\/k=1\/k=2\/k=3\/k=4\/k=5\/k=6\/k=7\/k=9)\/k=8\/10<=k:=by omega
theorem hdr_none(k:Nat)(h:k=8\/10<=k):hdr k=0:=by
 unfold hdr
 split <;> omega
attribute [local irreducible] shV shapesV
theorem of_st(hs:St w0 X L w)(k:Nat)(hk:k<256){b:Bool}(hb:decide (hdr k≠0)=b){xs:List Value}(hxs:shV k=xs):Calls Tryz.prog 130 #[.int .u8 k] w fun e w'=>e=.returned (.tuple #[.agg xs.toArray,.bool b])/\St w0 X L w':=by
 obtain⟨S,hS⟩:∃ S,S=shapesV:=⟨_,rfl⟩
 obtain⟨Z,hZ,hZL⟩:=zShapes
 obtain⟨Y,hY⟩:∃ Y,Y=shV 8:=⟨_,rfl⟩
 have HY:=Lib.hid hY
 have ZY:=Lib.hid zShape
 rw[<-hY] at ZY
 have YL:=Lib.hid (show Y.length=7 by rw[hY,shV_eq];rfl)
 have HS:=Lib.hid hS
 have HZ:=Lib.hid hZ
 have ZL:=Lib.hid hZL
 have HB:=Lib.hid hb
 have HX:=Lib.hid hxs
 have XL:=Lib.hid (show xs.length=7 by rw[<-hxs,shV_eq];rfl)
 have XO:=Lib.hid (show ∀ v∈xs,v.oneCell'=true by rw[<-hxs];exact shV_one k)
 have SO:=Lib.hid (show ∀ v∈S,v.oneCell'=true by rw[hS];exact shapes_one)
 have SL:=Lib.hid (show S.length=70 by rw[hS];exact shapes_len)
 have SA:=Lib.hid (fun i (h:i<10)=>show(S.drop (7*i)).take 7=shV i by rw[hS];exact shapes_at i h)
 have SH:=Lib.hid (fun i (h:i<10)=>show S[7*i]? = some (iv (hdr i)) by rw[hS];exact shapes_hdr i h)
 clear hZ hZL hS hb hxs hY
 rcases kinds_cases k with (rfl|rfl|rfl|rfl|rfl|rfl|rfl|rfl|rfl)|rfl|h10
 ·have C:Hid (S[0]? = some (.int .i64 128)):=Lib.hid (SH.out 0 (by omega))
  obtain rfl:b=true:=by rw[<-HB.out];rfl
  have R:Hid ((S.drop 0).take 7=xs):=Lib.hid ((SA.out 0 (by omega)).trans HX.out)
  go_enter Tryz.func130,Tryz.ntmps130
  go_wp2_with (first|((with_reducible refine Se.iL 2 ?_);(refine Se.Al hs rfl (ZY.out) ?_;clear hs;rintro w g2-hs))|((with_reducible refine Se.iL 4 ?_);(refine Se.Al hs rfl (HZ.out) ?_;clear hs;rintro w g4-hs))|((with_reducible refine Se.isL (o:=⟨none,Op.store 239 _ _,_,_,_,_⟩) ?_);(refine Se.Sow 0 hs rfl rfl rfl rfl (SO.out) (by rw[SL.out];kernel_rfl) (by rw[SL.out,ZL.out]) ?_;clear hs;intro w hs;try simp only[pS] at hs))|((with_reducible refine Se.iL 13 ?_);(refine Se.Ld hs rfl rfl (Cell.blk 0 rfl C.out) ?_))|((with_reducible refine Se.isL (o:=⟨none,Op.store 217 _ _,_,_,_,_⟩) ?_);(refine Se.Sow 1 hs rfl rfl rfl rfl (by rw[R.out];exact XO.out) (by rw[R.out,XL.out];kernel_rfl) (by rw[R.out,XL.out,YL.out]) ?_;clear hs;intro w hs;try simp only[pS] at hs))|(go_at_call 163;refine Calls.mono (shapes_st hs HS.out) ?_;clear hs;rintro e w ⟨rfl,hs⟩)|(with_reducible refine Se.isL (o:=⟨some 19,_,_,_,_,_⟩) ?_;refine Se.toL rfl (Se.lda (o:=⟨some 19,_,_,_,_,_⟩) (n:=7) hs rfl rfl ((Reads.blk 0 rfl).at 0) (by kernel_rfl) (by kernel_rfl) (by rw[List.length_drop,SL.out];decide) ?_)))
  rw[R.out] at hs;refine Se.ret hs [.agg xs.toArray,.bool true] rfl ⟨Se.resRow rfl (Reads.blk 1 rfl) (by kernel_rfl) (by rw[XL.out];kernel_rfl),rfl,trivial⟩ (by simp) rfl ?_;exact⟨rfl,hs.drop.drop⟩
 ·have C:Hid (S[7]? = some (.int .i64 128)):=Lib.hid (SH.out 1 (by omega))
  obtain rfl:b=true:=by rw[<-HB.out];rfl
  have R:Hid ((S.drop 7).take 7=xs):=Lib.hid ((SA.out 1 (by omega)).trans HX.out)
  go_enter Tryz.func130,Tryz.ntmps130
  go_wp2_with (first|((with_reducible refine Se.iL 2 ?_);(refine Se.Al hs rfl (ZY.out) ?_;clear hs;rintro w g2-hs))|((with_reducible refine Se.iL 4 ?_);(refine Se.Al hs rfl (HZ.out) ?_;clear hs;rintro w g4-hs))|((with_reducible refine Se.isL (o:=⟨none,Op.store 239 _ _,_,_,_,_⟩) ?_);(refine Se.Sow 0 hs rfl rfl rfl rfl (SO.out) (by rw[SL.out];kernel_rfl) (by rw[SL.out,ZL.out]) ?_;clear hs;intro w hs;try simp only[pS] at hs))|((with_reducible refine Se.iL 13 ?_);(refine Se.Ld hs rfl rfl (Cell.blk 0 rfl C.out) ?_))|((with_reducible refine Se.isL (o:=⟨none,Op.store 217 _ _,_,_,_,_⟩) ?_);(refine Se.Sow 1 hs rfl rfl rfl rfl (by rw[R.out];exact XO.out) (by rw[R.out,XL.out];kernel_rfl) (by rw[R.out,XL.out,YL.out]) ?_;clear hs;intro w hs;try simp only[pS] at hs))|(go_at_call 163;refine Calls.mono (shapes_st hs HS.out) ?_;clear hs;rintro e w ⟨rfl,hs⟩)|(with_reducible refine Se.isL (o:=⟨some 19,_,_,_,_,_⟩) ?_;refine Se.toL rfl (Se.lda (o:=⟨some 19,_,_,_,_,_⟩) (n:=7) hs rfl rfl ((Reads.blk 0 rfl).at 7) (by kernel_rfl) (by kernel_rfl) (by rw[List.length_drop,SL.out];decide) ?_)))
  rw[R.out] at hs;refine Se.ret hs [.agg xs.toArray,.bool true] rfl ⟨Se.resRow rfl (Reads.blk 1 rfl) (by kernel_rfl) (by rw[XL.out];kernel_rfl),rfl,trivial⟩ (by simp) rfl ?_;exact⟨rfl,hs.drop.drop⟩
 ·have C:Hid (S[14]? = some (.int .i64 24)):=Lib.hid (SH.out 2 (by omega))
  obtain rfl:b=true:=by rw[<-HB.out];rfl
  have R:Hid ((S.drop 14).take 7=xs):=Lib.hid ((SA.out 2 (by omega)).trans HX.out)
  go_enter Tryz.func130,Tryz.ntmps130
  go_wp2_with (first|((with_reducible refine Se.iL 2 ?_);(refine Se.Al hs rfl (ZY.out) ?_;clear hs;rintro w g2-hs))|((with_reducible refine Se.iL 4 ?_);(refine Se.Al hs rfl (HZ.out) ?_;clear hs;rintro w g4-hs))|((with_reducible refine Se.isL (o:=⟨none,Op.store 239 _ _,_,_,_,_⟩) ?_);(refine Se.Sow 0 hs rfl rfl rfl rfl (SO.out) (by rw[SL.out];kernel_rfl) (by rw[SL.out,ZL.out]) ?_;clear hs;intro w hs;try simp only[pS] at hs))|((with_reducible refine Se.iL 13 ?_);(refine Se.Ld hs rfl rfl (Cell.blk 0 rfl C.out) ?_))|((with_reducible refine Se.isL (o:=⟨none,Op.store 217 _ _,_,_,_,_⟩) ?_);(refine Se.Sow 1 hs rfl rfl rfl rfl (by rw[R.out];exact XO.out) (by rw[R.out,XL.out];kernel_rfl) (by rw[R.out,XL.out,YL.out]) ?_;clear hs;intro w hs;try simp only[pS] at hs))|(go_at_call 163;refine Calls.mono (shapes_st hs HS.out) ?_;clear hs;rintro e w ⟨rfl,hs⟩)|(with_reducible refine Se.isL (o:=⟨some 19,_,_,_,_,_⟩) ?_;refine Se.toL rfl (Se.lda (o:=⟨some 19,_,_,_,_,_⟩) (n:=7) hs rfl rfl ((Reads.blk 0 rfl).at 14) (by kernel_rfl) (by kernel_rfl) (by rw[List.length_drop,SL.out];decide) ?_)))
  rw[R.out] at hs;refine Se.ret hs [.agg xs.toArray,.bool true] rfl ⟨Se.resRow rfl (Reads.blk 1 rfl) (by kernel_rfl) (by rw[XL.out];kernel_rfl),rfl,trivial⟩ (by simp) rfl ?_;exact⟨rfl,hs.drop.drop⟩
 ·have C:Hid (S[21]? = some (.int .i64 24)):=Lib.hid (SH.out 3 (by omega))
  obtain rfl:b=true:=by rw[<-HB.out];rfl
  have R:Hid ((S.drop 21).take 7=xs):=Lib.hid ((SA.out 3 (by omega)).trans HX.out)
  go_enter Tryz.func130,Tryz.ntmps130
  go_wp2_with (first|((with_reducible refine Se.iL 2 ?_);(refine Se.Al hs rfl (ZY.out) ?_;clear hs;rintro w g2-hs))|((with_reducible refine Se.iL 4 ?_);(refine Se.Al hs rfl (HZ.out) ?_;clear hs;rintro w g4-hs))|((with_reducible refine Se.isL (o:=⟨none,Op.store 239 _ _,_,_,_,_⟩) ?_);(refine Se.Sow 0 hs rfl rfl rfl rfl (SO.out) (by rw[SL.out];kernel_rfl) (by rw[SL.out,ZL.out]) ?_;clear hs;intro w hs;try simp only[pS] at hs))|((with_reducible refine Se.iL 13 ?_);(refine Se.Ld hs rfl rfl (Cell.blk 0 rfl C.out) ?_))|((with_reducible refine Se.isL (o:=⟨none,Op.store 217 _ _,_,_,_,_⟩) ?_);(refine Se.Sow 1 hs rfl rfl rfl rfl (by rw[R.out];exact XO.out) (by rw[R.out,XL.out];kernel_rfl) (by rw[R.out,XL.out,YL.out]) ?_;clear hs;intro w hs;try simp only[pS] at hs))|(go_at_call 163;refine Calls.mono (shapes_st hs HS.out) ?_;clear hs;rintro e w ⟨rfl,hs⟩)|(with_reducible refine Se.isL (o:=⟨some 19,_,_,_,_,_⟩) ?_;refine Se.toL rfl (Se.lda (o:=⟨some 19,_,_,_,_,_⟩) (n:=7) hs rfl rfl ((Reads.blk 0 rfl).at 21) (by kernel_rfl) (by kernel_rfl) (by rw[List.length_drop,SL.out];decide) ?_)))
  rw[R.out] at hs;refine Se.ret hs [.agg xs.toArray,.bool true] rfl ⟨Se.resRow rfl (Reads.blk 1 rfl) (by kernel_rfl) (by rw[XL.out];kernel_rfl),rfl,trivial⟩ (by simp) rfl ?_;exact⟨rfl,hs.drop.drop⟩
 ·have C:Hid (S[28]? = some (.int .i64 72)):=Lib.hid (SH.out 4 (by omega))
  obtain rfl:b=true:=by rw[<-HB.out];rfl
  have R:Hid ((S.drop 28).take 7=xs):=Lib.hid ((SA.out 4 (by omega)).trans HX.out)
  go_enter Tryz.func130,Tryz.ntmps130
  go_wp2_with (first|((with_reducible refine Se.iL 2 ?_);(refine Se.Al hs rfl (ZY.out) ?_;clear hs;rintro w g2-hs))|((with_reducible refine Se.iL 4 ?_);(refine Se.Al hs rfl (HZ.out) ?_;clear hs;rintro w g4-hs))|((with_reducible refine Se.isL (o:=⟨none,Op.store 239 _ _,_,_,_,_⟩) ?_);(refine Se.Sow 0 hs rfl rfl rfl rfl (SO.out) (by rw[SL.out];kernel_rfl) (by rw[SL.out,ZL.out]) ?_;clear hs;intro w hs;try simp only[pS] at hs))|((with_reducible refine Se.iL 13 ?_);(refine Se.Ld hs rfl rfl (Cell.blk 0 rfl C.out) ?_))|((with_reducible refine Se.isL (o:=⟨none,Op.store 217 _ _,_,_,_,_⟩) ?_);(refine Se.Sow 1 hs rfl rfl rfl rfl (by rw[R.out];exact XO.out) (by rw[R.out,XL.out];kernel_rfl) (by rw[R.out,XL.out,YL.out]) ?_;clear hs;intro w hs;try simp only[pS] at hs))|(go_at_call 163;refine Calls.mono (shapes_st hs HS.out) ?_;clear hs;rintro e w ⟨rfl,hs⟩)|(with_reducible refine Se.isL (o:=⟨some 19,_,_,_,_,_⟩) ?_;refine Se.toL rfl (Se.lda (o:=⟨some 19,_,_,_,_,_⟩) (n:=7) hs rfl rfl ((Reads.blk 0 rfl).at 28) (by kernel_rfl) (by kernel_rfl) (by rw[List.length_drop,SL.out];decide) ?_)))
  rw[R.out] at hs;refine Se.ret hs [.agg xs.toArray,.bool true] rfl ⟨Se.resRow rfl (Reads.blk 1 rfl) (by kernel_rfl) (by rw[XL.out];kernel_rfl),rfl,trivial⟩ (by simp) rfl ?_;exact⟨rfl,hs.drop.drop⟩
 ·have C:Hid (S[35]? = some (.int .i64 24)):=Lib.hid (SH.out 5 (by omega))
  obtain rfl:b=true:=by rw[<-HB.out];rfl
  have R:Hid ((S.drop 35).take 7=xs):=Lib.hid ((SA.out 5 (by omega)).trans HX.out)
  go_enter Tryz.func130,Tryz.ntmps130
  go_wp2_with (first|((with_reducible refine Se.iL 2 ?_);(refine Se.Al hs rfl (ZY.out) ?_;clear hs;rintro w g2-hs))|((with_reducible refine Se.iL 4 ?_);(refine Se.Al hs rfl (HZ.out) ?_;clear hs;rintro w g4-hs))|((with_reducible refine Se.isL (o:=⟨none,Op.store 239 _ _,_,_,_,_⟩) ?_);(refine Se.Sow 0 hs rfl rfl rfl rfl (SO.out) (by rw[SL.out];kernel_rfl) (by rw[SL.out,ZL.out]) ?_;clear hs;intro w hs;try simp only[pS] at hs))|((with_reducible refine Se.iL 13 ?_);(refine Se.Ld hs rfl rfl (Cell.blk 0 rfl C.out) ?_))|((with_reducible refine Se.isL (o:=⟨none,Op.store 217 _ _,_,_,_,_⟩) ?_);(refine Se.Sow 1 hs rfl rfl rfl rfl (by rw[R.out];exact XO.out) (by rw[R.out,XL.out];kernel_rfl) (by rw[R.out,XL.out,YL.out]) ?_;clear hs;intro w hs;try simp only[pS] at hs))|(go_at_call 163;refine Calls.mono (shapes_st hs HS.out) ?_;clear hs;rintro e w ⟨rfl,hs⟩)|(with_reducible refine Se.isL (o:=⟨some 19,_,_,_,_,_⟩) ?_;refine Se.toL rfl (Se.lda (o:=⟨some 19,_,_,_,_,_⟩) (n:=7) hs rfl rfl ((Reads.blk 0 rfl).at 35) (by kernel_rfl) (by kernel_rfl) (by rw[List.length_drop,SL.out];decide) ?_)))
  rw[R.out] at hs;refine Se.ret hs [.agg xs.toArray,.bool true] rfl ⟨Se.resRow rfl (Reads.blk 1 rfl) (by kernel_rfl) (by rw[XL.out];kernel_rfl),rfl,trivial⟩ (by simp) rfl ?_;exact⟨rfl,hs.drop.drop⟩
 ·have C:Hid (S[42]? = some (.int .i64 24)):=Lib.hid (SH.out 6 (by omega))
  obtain rfl:b=true:=by rw[<-HB.out];rfl
  have R:Hid ((S.drop 42).take 7=xs):=Lib.hid ((SA.out 6 (by omega)).trans HX.out)
  go_enter Tryz.func130,Tryz.ntmps130
  go_wp2_with (first|((with_reducible refine Se.iL 2 ?_);(refine Se.Al hs rfl (ZY.out) ?_;clear hs;rintro w g2-hs))|((with_reducible refine Se.iL 4 ?_);(refine Se.Al hs rfl (HZ.out) ?_;clear hs;rintro w g4-hs))|((with_reducible refine Se.isL (o:=⟨none,Op.store 239 _ _,_,_,_,_⟩) ?_);(refine Se.Sow 0 hs rfl rfl rfl rfl (SO.out) (by rw[SL.out];kernel_rfl) (by rw[SL.out,ZL.out]) ?_;clear hs;intro w hs;try simp only[pS] at hs))|((with_reducible refine Se.iL 13 ?_);(refine Se.Ld hs rfl rfl (Cell.blk 0 rfl C.out) ?_))|((with_reducible refine Se.isL (o:=⟨none,Op.store 217 _ _,_,_,_,_⟩) ?_);(refine Se.Sow 1 hs rfl rfl rfl rfl (by rw[R.out];exact XO.out) (by rw[R.out,XL.out];kernel_rfl) (by rw[R.out,XL.out,YL.out]) ?_;clear hs;intro w hs;try simp only[pS] at hs))|(go_at_call 163;refine Calls.mono (shapes_st hs HS.out) ?_;clear hs;rintro e w ⟨rfl,hs⟩)|(with_reducible refine Se.isL (o:=⟨some 19,_,_,_,_,_⟩) ?_;refine Se.toL rfl (Se.lda (o:=⟨some 19,_,_,_,_,_⟩) (n:=7) hs rfl rfl ((Reads.blk 0 rfl).at 42) (by kernel_rfl) (by kernel_rfl) (by rw[List.length_drop,SL.out];decide) ?_)))
  rw[R.out] at hs;refine Se.ret hs [.agg xs.toArray,.bool true] rfl ⟨Se.resRow rfl (Reads.blk 1 rfl) (by kernel_rfl) (by rw[XL.out];kernel_rfl),rfl,trivial⟩ (by simp) rfl ?_;exact⟨rfl,hs.drop.drop⟩
 ·have C:Hid (S[49]? = some (.int .i64 24)):=Lib.hid (SH.out 7 (by omega))
  obtain rfl:b=true:=by rw[<-HB.out];rfl
  have R:Hid ((S.drop 49).take 7=xs):=Lib.hid ((SA.out 7 (by omega)).trans HX.out)
  go_enter Tryz.func130,Tryz.ntmps130
  go_wp2_with (first|((with_reducible refine Se.iL 2 ?_);(refine Se.Al hs rfl (ZY.out) ?_;clear hs;rintro w g2-hs))|((with_reducible refine Se.iL 4 ?_);(refine Se.Al hs rfl (HZ.out) ?_;clear hs;rintro w g4-hs))|((with_reducible refine Se.isL (o:=⟨none,Op.store 239 _ _,_,_,_,_⟩) ?_);(refine Se.Sow 0 hs rfl rfl rfl rfl (SO.out) (by rw[SL.out];kernel_rfl) (by rw[SL.out,ZL.out]) ?_;clear hs;intro w hs;try simp only[pS] at hs))|((with_reducible refine Se.iL 13 ?_);(refine Se.Ld hs rfl rfl (Cell.blk 0 rfl C.out) ?_))|((with_reducible refine Se.isL (o:=⟨none,Op.store 217 _ _,_,_,_,_⟩) ?_);(refine Se.Sow 1 hs rfl rfl rfl rfl (by rw[R.out];exact XO.out) (by rw[R.out,XL.out];kernel_rfl) (by rw[R.out,XL.out,YL.out]) ?_;clear hs;intro w hs;try simp only[pS] at hs))|(go_at_call 163;refine Calls.mono (shapes_st hs HS.out) ?_;clear hs;rintro e w ⟨rfl,hs⟩)|(with_reducible refine Se.isL (o:=⟨some 19,_,_,_,_,_⟩) ?_;refine Se.toL rfl (Se.lda (o:=⟨some 19,_,_,_,_,_⟩) (n:=7) hs rfl rfl ((Reads.blk 0 rfl).at 49) (by kernel_rfl) (by kernel_rfl) (by rw[List.length_drop,SL.out];decide) ?_)))
  rw[R.out] at hs;refine Se.ret hs [.agg xs.toArray,.bool true] rfl ⟨Se.resRow rfl (Reads.blk 1 rfl) (by kernel_rfl) (by rw[XL.out];kernel_rfl),rfl,trivial⟩ (by simp) rfl ?_;exact⟨rfl,hs.drop.drop⟩
 ·have C:Hid (S[63]? = some (.int .i64 24)):=Lib.hid (SH.out 9 (by omega))
  obtain rfl:b=true:=by rw[<-HB.out];rfl
  have R:Hid ((S.drop 63).take 7=xs):=Lib.hid ((SA.out 9 (by omega)).trans HX.out)
  go_enter Tryz.func130,Tryz.ntmps130
  go_wp2_with (first|((with_reducible refine Se.iL 2 ?_);(refine Se.Al hs rfl (ZY.out) ?_;clear hs;rintro w g2-hs))|((with_reducible refine Se.iL 4 ?_);(refine Se.Al hs rfl (HZ.out) ?_;clear hs;rintro w g4-hs))|((with_reducible refine Se.isL (o:=⟨none,Op.store 239 _ _,_,_,_,_⟩) ?_);(refine Se.Sow 0 hs rfl rfl rfl rfl (SO.out) (by rw[SL.out];kernel_rfl) (by rw[SL.out,ZL.out]) ?_;clear hs;intro w hs;try simp only[pS] at hs))|((with_reducible refine Se.iL 13 ?_);(refine Se.Ld hs rfl rfl (Cell.blk 0 rfl C.out) ?_))|((with_reducible refine Se.isL (o:=⟨none,Op.store 217 _ _,_,_,_,_⟩) ?_);(refine Se.Sow 1 hs rfl rfl rfl rfl (by rw[R.out];exact XO.out) (by rw[R.out,XL.out];kernel_rfl) (by rw[R.out,XL.out,YL.out]) ?_;clear hs;intro w hs;try simp only[pS] at hs))|(go_at_call 163;refine Calls.mono (shapes_st hs HS.out) ?_;clear hs;rintro e w ⟨rfl,hs⟩)|(with_reducible refine Se.isL (o:=⟨some 19,_,_,_,_,_⟩) ?_;refine Se.toL rfl (Se.lda (o:=⟨some 19,_,_,_,_,_⟩) (n:=7) hs rfl rfl ((Reads.blk 0 rfl).at 63) (by kernel_rfl) (by kernel_rfl) (by rw[List.length_drop,SL.out];decide) ?_)))
  rw[R.out] at hs;refine Se.ret hs [.agg xs.toArray,.bool true] rfl ⟨Se.resRow rfl (Reads.blk 1 rfl) (by kernel_rfl) (by rw[XL.out];kernel_rfl),rfl,trivial⟩ (by simp) rfl ?_;exact⟨rfl,hs.drop.drop⟩
 ·have C:Hid (S[56]? = some (.int .i64 0)):=Lib.hid (SH.out 8 (by omega))
  obtain rfl:b=false:=by rw[<-HB.out];rfl
  have HXY:Hid (Y=xs):=Lib.hid (HY.out.trans HX.out)
  have B:Hid (∀ w:World,(Instr.build 217 #[]).run Tryz.prog w=.ok (.agg xs.toArray) w):=Lib.hid (by rw[<-HX.out];exact bshz)
  go_enter Tryz.func130,Tryz.ntmps130
  go_wp2_with (first|((with_reducible refine Se.iL 2 ?_);(refine Se.Al hs rfl (ZY.out) ?_;clear hs;rintro w g2-hs))|((with_reducible refine Se.iL 4 ?_);(refine Se.Al hs rfl (HZ.out) ?_;clear hs;rintro w g4-hs))|((with_reducible refine Se.isL (o:=⟨none,Op.store 239 _ _,_,_,_,_⟩) ?_);(refine Se.Sow 0 hs rfl rfl rfl rfl (SO.out) (by rw[SL.out];kernel_rfl) (by rw[SL.out,ZL.out]) ?_;clear hs;intro w hs;try simp only[pS] at hs))|((with_reducible refine Se.iL 13 ?_);(refine Se.Ld hs rfl rfl (Cell.blk 0 rfl C.out) ?_))|((with_reducible refine Se.iL 16 ?_);(refine Se.Bd rfl rfl (B.out _) ?_))|((with_reducible refine Se.isL (o:=⟨none,Op.store 217 _ _,_,_,_,_⟩) ?_);(refine Se.Sow 1 hs rfl rfl rfl rfl (XO.out) (by rw[XL.out];kernel_rfl) (by rw[XL.out,YL.out]) ?_;clear hs;intro w hs;try simp only[pS] at hs))|(go_at_call 163;refine Calls.mono (shapes_st hs HS.out) ?_;clear hs;rintro e w ⟨rfl,hs⟩))
  refine Se.ret hs [.agg xs.toArray,.bool false] rfl ⟨Se.resRow rfl (Reads.blk 1 rfl) (by kernel_rfl) (by rw[XL.out];kernel_rfl),rfl,trivial⟩ (by simp) rfl ?_;exact⟨rfl,hs.drop.drop⟩
 ·obtain rfl:b=false:=by rw[<-HB.out,hdr_none k (.inr h10)];rfl
  have HXY:Hid (shV 8=xs):=Lib.hid (by rw[<-HX.out,shV_none k (hdr_none k (.inr h10))])
  have B:Hid (∀ w:World,(Instr.build 217 #[]).run Tryz.prog w=.ok (.agg xs.toArray) w):=Lib.hid (by rw[<-HXY.out];exact bshz)
  have hw:wrap64 (k:Int)=k:=by rw[<-IntWalk.i64_left];exact IntWalk.i64_in _ (by omega)
  have h10b:decide ((10:Int)<=(k:Int))=true:=by simp;omega
  go_enter Tryz.func130,Tryz.ntmps130
  go_wp2_with (first|((with_reducible refine Se.iL 2 ?_);(refine Se.Al hs rfl (ZY.out) ?_;clear hs;rintro w g2-hs))|((with_reducible refine Se.iL 4 ?_);(refine Se.Al hs rfl (HZ.out) ?_;clear hs;rintro w g4-hs))|((with_reducible refine Se.isL (o:=⟨none,Op.store 239 _ _,_,_,_,_⟩) ?_);(refine Se.Sow 0 hs rfl rfl rfl rfl (SO.out) (by rw[SL.out];kernel_rfl) (by rw[SL.out,ZL.out]) ?_;clear hs;intro w hs;try simp only[pS] at hs))|((with_reducible refine Se.iL 16 ?_);(refine Se.Bd rfl rfl (B.out _) ?_))|((with_reducible refine Se.isL (o:=⟨none,Op.store 217 _ _,_,_,_,_⟩) ?_);(refine Se.Sow 1 hs rfl rfl rfl rfl (XO.out) (by rw[XL.out];kernel_rfl) (by rw[XL.out,YL.out]) ?_;clear hs;intro w hs;try simp only[pS] at hs))|(go_at_call 163;refine Calls.mono (shapes_st hs HS.out) ?_;clear hs;rintro e w ⟨rfl,hs⟩))
  refine Se.ret hs [.agg xs.toArray,.bool false] rfl ⟨Se.resRow rfl (Reads.blk 1 rfl) (by kernel_rfl) (by rw[XL.out];kernel_rfl),rfl,trivial⟩ (by simp) rfl ?_;exact⟨rfl,hs.drop.drop⟩
theorem digests_st(hs:St w0 X L w)(k:Nat)(f:Fm)(data:Bool){h d:Nat}(hh:hsum k f=h)(hd:dsum k f data=d):Calls Tryz.prog 131 #[.int .u8 k,fv f,.bool data] w fun e w'=>e=.returned (.tuple #[iv h,iv d])/\St w0 X L w':=by
 obtain⟨hdb,ddb,al⟩:=f
 unfold fv
 dsimp only
 have HH:=Lib.hid hh
 have HD:=Lib.hid hd
 by_cases h3:k<=3
 ·have P:Hid (∀ w:World,Calls Tryz.prog 164 #[.int .u8 k] w fun e w'=>e=.returned (.bool true)/\w'=w):=Lib.hid (fun w=>by have:=plain_any k w;rwa [decide_eq_true h3] at this)
  obtain rfl:h=0:=by rw[<-hh];unfold hsum;rw[if_neg (by omega)]
  obtain rfl:d=0:=by rw[<-hd];unfold dsum;rw[if_neg (by omega)]
  clear hh hd h3
  go_enter Tryz.func131,Tryz.ntmps131
  go_wp2_with (first|((first|with_reducible refine Se.ab hs ?_|with_reducible refine Se.abc hs ?_);clear hs;(first|(generalize w.heap.size=g4;intro w hs)))|(go_at_call 164;refine Calls.mono (P.out _) ?_;rintro e w' ⟨rfl,rfl⟩))
  go_ret2;exact⟨rfl,hs.drop⟩
 ·have P:Hid (∀ w:World,Calls Tryz.prog 164 #[.int .u8 k] w fun e w'=>e=.returned (.bool false)/\w'=w):=Lib.hid (fun w=>by have:=plain_any k w;rwa [decide_eq_false h3] at this)
  have eh:h=if hdb=true then 4 else 0:=by rw[<-hh];unfold hsum;simp[show 3<k by omega]
  have ed:d=if ddb=true/\data=true then 4 else 0:=by rw[<-hd];unfold dsum;simp[show 3<k by omega]
  clear hh hd h3 HH HD
  cases hdb <;> cases ddb <;> cases data <;> simp only[Bool.false_eq_true,if_true,if_false,and_true,and_false,and_self,true_and,false_and] at eh ed <;> subst eh ed
  all_goals
   go_enter Tryz.func131,Tryz.ntmps131
   go_wp2_with (first|((with_reducible refine Se.iL 11 ?_);(refine Se.Ld hs rfl rfl (Cell.blk 0 rfl rfl) ?_))|((with_reducible refine Se.iL 13 ?_);(refine Se.Ld hs rfl rfl (Cell.blk 0 rfl rfl) ?_))|((first|with_reducible refine Se.ab hs ?_|with_reducible refine Se.abc hs ?_);clear hs;(first|(generalize w.heap.size=g4;intro w hs)))|(go_at_call 164;refine Calls.mono (P.out _) ?_;rintro e w' ⟨rfl,rfl⟩))
   go_ret2;exact⟨rfl,hs.drop⟩
end Pd
end Go.Proofs.YtjnllcnknjlmmaaGreat
namespace Go.Proofs.YtjnllcnknjlmmaaGreat
open Go Go.RowKit
namespace Pd
open Se (St At Reads Cell)
variable {w0 w:World} {X:List Nat} {L:List At}
attribute [local irreducible] Calls
theorem hdr_le(k:Nat):hdr k<=128:=by unfold hdr;split <;> omega
theorem hsum_le(k:Nat)(f:Fm):hsum k f<=4:=by unfold hsum;split <;> omega
theorem dsum_le(k:Nat)(f:Fm)(b:Bool):dsum k f b<=4:=by unfold dsum;split <;> omega
theorem framed_al{f:Fm}(h:framed f=true):0<=f.al/\f.al<=31:=by simpa [framed] using h
theorem start_le(k:Nat){f:Fm}(h:framed f=true):start k f<=260:=by
 have:=framed_al h
 have h1:unit k f<=128/\1<=unit k f:=by unfold unit;split <;> omega
 have:=hdr_le k
 have:=hsum_le k f
 have h2:=Nat.div_mul_le_self (hdr k+hsum k f+unit k f-1) (unit k f)
 unfold start;omega
attribute [local irreducible] shV
theorem start_st(hs:St w0 X L w)(k:Nat){f:Fm}(hf:framed f=true){xs:List Value}(hxs:shV k=xs){n:Nat}(hn:start k f=n):Calls Tryz.prog 132 #[.int .u8 k,.agg xs.toArray,fv f] w fun e w'=>e=.returned (iv n)/\St w0 X L w':=by
 have hal:=framed_al hf
 obtain⟨h,hh⟩:∃ h,h=hsum k f:=⟨_,rfl⟩
 obtain⟨q,hq⟩:∃ q,q=hdr k:=⟨_,rfl⟩
 obtain⟨u,hu⟩:∃ u,u=unit k f:=⟨_,rfl⟩
 have hn':n=(q+h+u-1) / u*u:=by rw[<-hn,hq,hh,hu];rfl
 have hul:1<=u/\u<=128:=by rw[hu];unfold unit;split <;> omega
 have hql:q<=128:=by rw[hq];exact hdr_le k
 have hhl:h<=4:=by rw[hh];exact hsum_le k f
 have HH:=Lib.hid hh
 have X0:=Lib.hid (show xs[0]? = some (iv q) by rw[<-hxs,shV_eq,hq];rfl)
 have XL:=Lib.hid (show xs.length=7 by rw[<-hxs,shV_eq];rfl)
 have e1:IntKind.i64.wrap ((q:Int)+(h:Int))=((q+h:Nat):Int):=by rw[IntWalk.i64_in _ (by omega)];omega
 have e2:IntKind.i64.wrap (((q+h:Nat):Int)+(u:Int))=((q+h+u:Nat):Int):=by rw[IntWalk.i64_in _ (by omega)];omega
 have e3:IntKind.i64.wrap (((q+h+u:Nat):Int)-1)=((q+h+u-1:Nat):Int):=by rw[IntWalk.i64_in _ (by omega)];omega
 have e4:IntKind.i64.wrap (((q+h+u-1:Nat):Int).tdiv (u:Int))=(((q+h+u-1) / u:Nat):Int):=by rw[IntWalk.i64_quo _ _ (by omega)];rfl
 have hdm:=Nat.div_mul_le_self (q+h+u-1) u
 have e5:IntKind.i64.wrap ((((q+h+u-1) / u:Nat):Int)*(u:Int))=(((q+h+u-1) / u*u:Nat):Int):=by rw[<-Int.natCast_mul,IntWalk.i64_in _ (by omega)]
 have hu0:¬ (u:Int)=0:=by omega
 have EE:Hid (((q:Int)+(h:Int)+(u:Int)-1) / (u:Int)*(u:Int)=(((q+h+u-1) / u*u:Nat):Int)):=Lib.hid (by rw[Int.natCast_mul,Int.natCast_ediv];congr 2;omega)
 have EW:Hid (wrap64 (((q+h+u-1) / u*u:Nat):Int)=(((q+h+u-1) / u*u:Nat):Int)):=Lib.hid (by rw[<-IntWalk.i64_left];exact IntWalk.i64_in _ (by omega))
 rw[hn']
 obtain⟨hdb,ddb,al⟩:=f
 unfold fv
 dsimp only at hal ⊢
 have b1:IntKind.i64.wrap (al+1)=al+1:=IntWalk.i64_in _ (by omega)
 have b2:IntKind.i64.wrap (4*(al+1))=4*(al+1):=IntWalk.i64_in _ (by omega)
 obtain⟨d,hd⟩:∃ d,dsum k ⟨hdb,ddb,al⟩ true=d:=⟨_,rfl⟩
 have DD:=Lib.hid hd
 clear hxs hq hn' hd hf hn hdm hh
 by_cases h3:k<=3
 ·obtain rfl:u=4:=by rw[hu];unfold unit;rw[if_neg (by omega)]
  have P:Hid (∀ w:World,Calls Tryz.prog 164 #[.int .u8 k] w fun e w'=>e=.returned (.bool true)/\w'=w):=Lib.hid (fun w=>by have:=plain_any k w;rwa [decide_eq_true h3] at this)
  clear h3 hu
  go_enter Tryz.func132,Tryz.ntmps132
  go_wp2_with (first|((with_reducible refine Se.iL 11 ?_);(refine Se.Ld hs rfl rfl (Cell.blk 0 rfl rfl) ?_))|((with_reducible refine Se.iL 18 ?_);(refine Se.Ldw hs rfl rfl (Reads.blk 0 rfl) (by kernel_rfl) ?_))|((with_reducible refine Se.iL 23 ?_);(refine Se.Ld hs rfl rfl (Cell.blk 1 rfl X0.out) ?_))|((first|with_reducible refine Se.ab hs ?_|with_reducible refine Se.abc hs ?_);clear hs;(first|((fail_if_success (have _q:=g4));generalize w.heap.size=g4;intro w hs)|(generalize w.heap.size=g5;intro w hs)))|(go_at_call 164;refine Calls.mono (P.out _) ?_;rintro e w' ⟨rfl,rfl⟩)|(go_at_call 131;refine Calls.mono (digests_st hs k ⟨hdb,ddb,al⟩ true HH.out.symm DD.out) ?_;clear hs;rintro e w ⟨rfl,hs⟩))
  go_ret;refine⟨?_,hs.drop.drop⟩
  show Ending.returned (.int .i64 _)=.returned (.int .i64 _)
  congr 2
 ·have eu:(4*(al+1))=(u:Int):=by rw[hu];unfold unit;rw[if_pos (by omega)];dsimp only;omega
  have P:Hid (∀ w:World,Calls Tryz.prog 164 #[.int .u8 k] w fun e w'=>e=.returned (.bool false)/\w'=w):=Lib.hid (fun w=>by have:=plain_any k w;rwa [decide_eq_false h3] at this)
  clear h3 hu
  go_enter Tryz.func132,Tryz.ntmps132
  go_wp2_with (first|((with_reducible refine Se.iL 11 ?_);(refine Se.Ld hs rfl rfl (Cell.blk 0 rfl rfl) ?_))|((with_reducible refine Se.iL 18 ?_);(refine Se.Ldw hs rfl rfl (Reads.blk 0 rfl) (by kernel_rfl) ?_))|((with_reducible refine Se.iL 23 ?_);(refine Se.Ld hs rfl rfl (Cell.blk 1 rfl X0.out) ?_))|((first|with_reducible refine Se.ab hs ?_|with_reducible refine Se.abc hs ?_);clear hs;(first|((fail_if_success (have _q:=g4));generalize w.heap.size=g4;intro w hs)|(generalize w.heap.size=g5;intro w hs)))|(go_at_call 164;refine Calls.mono (P.out _) ?_;rintro e w' ⟨rfl,rfl⟩)|(go_at_call 131;refine Calls.mono (digests_st hs k ⟨hdb,ddb,al⟩ true HH.out.symm DD.out) ?_;clear hs;rintro e w ⟨rfl,hs⟩))
  go_ret;refine⟨?_,hs.drop.drop⟩
  show Ending.returned (.int .i64 _)=.returned (.int .i64 _)
  congr 2
  rw[EE.out];exact EW.out
end Pd
end Go.Proofs.YtjnllcnknjlmmaaGreat
namespace Go.Proofs.YtjnllcnknjlmmaaGreat
open Go Go.RowKit
namespace Pd
open Se (St At Reads Cell)
open Bv (n8 n16 n32)
variable {w0 w:World} {X:List Nat} {L:List At}
attribute [local irreducible] Calls
def pc(h:Hd)(EA:Option Addr)(en ec:Nat)(DA:Option Addr)(dn dc:Nat):List Value :=
 [.int .u8 (n8 h.k),.bool h.la,.bool h.su,.slice EA en ec,.int .u16 (n16 h.id),.int .u16 (n16 h.tg),.int .u32 (n32 h.of),.int .u32 (n32 h.ln),.int .u8 (n8 h.al),.int .u8 (n8 h.dg),.int .u32 (n32 h.mx),.int .u16 (n16 h.st),.int .u32 (n32 h.nf),.slice DA dn dc]
theorem pc_one(h:Hd)(EA:Option Addr)(en ec:Nat)(DA:Option Addr)(dn dc:Nat):∀ v∈pc h EA en ec DA dn dc,v.oneCell'=true:=by
 intro v hv;simp only[pc,List.mem_cons,List.not_mem_nil,or_false] at hv
 rcases hv with rfl|rfl|rfl|rfl|rfl|rfl|rfl|rfl|rfl|rfl|rfl|rfl|rfl|rfl <;> rfl
variable {h:Hd} {EA DA:Option Addr} {en ec dn dc:Nat}
theorem and2(a b:Prop)[Decidable a][Decidable b]:(decide a=false/\decide (a/\b)=false)\/(a/\decide b=false/\decide (a/\b)=false)\/(a/\b/\decide (a/\b)=true):=by
 by_cases ha:a <;> by_cases hb:b <;> simp[ha,hb]
theorem always_st(hs:St w0 X L w):Calls Tryz.prog 196 #[.agg (pc h EA en ec DA dn dc).toArray] w fun e w'=>e=.returned (.bool true)/\St w0 X L w':=by
 go_enter Tryz.func196,Tryz.ntmps196
 go_wp2_with fail
 go_ret;exact⟨rfl,(hs.alloc _ _).drop⟩
theorem validReady_st(hs:St w0 X L w):Calls Tryz.prog 203 #[.agg (pc h EA en ec DA dn dc).toArray] w fun e w'=>e=.returned (.bool (decide (0<h.ln.toNat)))/\St w0 X L w':=by
 have E:Hid (decide ((1:Int)<=n32 h.ln)=decide (0<h.ln.toNat)):=Lib.hid (by unfold n32;simp only[decide_eq_decide];omega)
 unfold pc
 go_enter Tryz.func203,Tryz.ntmps203
 go_wp2_with (first|((with_reducible refine Se.iL 4 ?_);(refine Se.Ld hs rfl rfl (Cell.blk 0 rfl rfl) ?_))|((first|with_reducible refine Se.ab hs ?_|with_reducible refine Se.abc hs ?_);clear hs;(first|(generalize w.heap.size=g1;intro w hs))))
 go_ret;exact⟨by rw[<-E.out];rfl,hs.drop⟩
theorem validInit_st(hs:St w0 X L w):Calls Tryz.prog 192 #[.agg (pc h EA en ec DA dn dc).toArray] w fun e w'=>e=.returned (.bool (decide (h.al.toNat<=31/\h.dg.toNat<=3)))/\St w0 X L w':=by
 have E:Hid (decide (h.al.toNat<=31/\h.dg.toNat<=3)=decide (n8 h.al<=31/\n8 h.dg<=3)):=Lib.hid (by unfold n8;simp only[decide_eq_decide];omega)
 have hc:=and2 (n8 h.al<=31) (n8 h.dg<=3)
 unfold pc
 rcases hc with ⟨h1,h3⟩|⟨h1,h2,h3⟩|⟨h1,h2,h3⟩
 ·have H3:=Lib.hid h3
  clear h3
  go_enter Tryz.func192,Tryz.ntmps192
  go_wp2_with (first|((with_reducible refine Se.iL 4 ?_);(refine Se.Ld hs rfl rfl (Cell.blk 0 rfl rfl) ?_))|((first|with_reducible refine Se.ab hs ?_|with_reducible refine Se.abc hs ?_);clear hs;(first|(generalize w.heap.size=g1;intro w hs))))
  go_ret;rw[E.out,H3.out];exact⟨by simp_all,hs.drop⟩
 ·have H3:=Lib.hid h3
  clear h3
  go_enter Tryz.func192,Tryz.ntmps192
  go_wp2_with (first|((with_reducible refine Se.iL 4 ?_);(refine Se.Ld hs rfl rfl (Cell.blk 0 rfl rfl) ?_))|((with_reducible refine Se.iL 8 ?_);(refine Se.Ld hs rfl rfl (Cell.blk 0 rfl rfl) ?_))|((first|with_reducible refine Se.ab hs ?_|with_reducible refine Se.abc hs ?_);clear hs;(first|(generalize w.heap.size=g1;intro w hs))))
  go_ret;rw[E.out,H3.out];exact⟨by simp_all,hs.drop⟩
 ·have H3:=Lib.hid h3
  clear h3
  go_enter Tryz.func192,Tryz.ntmps192
  go_wp2_with (first|((with_reducible refine Se.iL 4 ?_);(refine Se.Ld hs rfl rfl (Cell.blk 0 rfl rfl) ?_))|((with_reducible refine Se.iL 8 ?_);(refine Se.Ld hs rfl rfl (Cell.blk 0 rfl rfl) ?_))|((first|with_reducible refine Se.ab hs ?_|with_reducible refine Se.abc hs ?_);clear hs;(first|(generalize w.heap.size=g1;intro w hs))))
  go_ret;rw[E.out,H3.out];exact⟨by simp_all,hs.drop⟩
theorem validResponse_st(hs:St w0 X L w):Calls Tryz.prog 195 #[.agg (pc h EA en ec DA dn dc).toArray] w fun e w'=>e=.returned (.bool (decide (h.al.toNat<=31/\h.dg.toNat<=3/\4096<=h.mx.toNat/\h.mx.toNat%4=0)))/\St w0 X L w':=by
 have V:=Lib.hid (fun(w:World) (hs:St w0 X (.blk 0 0 []::L) w)=>validInit_st (h:=h) (EA:=EA) (en:=en) (ec:=ec) (DA:=DA) (dn:=dn) (dc:=dc) hs)
 obtain⟨b,hb⟩:∃ b,b=decide (h.al.toNat<=31/\h.dg.toNat<=3):=⟨_,rfl⟩
 obtain⟨P,hP⟩:∃ P,P=pc h EA en ec DA dn dc:=⟨_,rfl⟩
 have PL:=Lib.hid (show P.length=14 by rw[hP];rfl)
 have P10:=Lib.hid (show P[10]? = some (.int .u32 (n32 h.mx)) by rw[hP];rfl)
 have C:=Lib.hid (fun(L:List At) (w:World) (hs:St w0 X L w)=>validInit_st (h:=h) (EA:=EA) (en:=en) (ec:=ec) (DA:=DA) (dn:=dn) (dc:=dc) hs)
 rw[<-hP,<-hb] at C;rw[<-hP]
 have F:Hid (decide (h.al.toNat<=31/\h.dg.toNat<=3/\4096<=h.mx.toNat/\h.mx.toNat%4=0)=(b&&decide (4096<=h.mx.toNat)&&decide (h.mx.toNat%4=0))):=Lib.hid (by rw[hb];simp[Bool.and_assoc])
 rw[F.out]
 have e1:decide ((4096:Int)<=n32 h.mx)=decide (4096<=h.mx.toNat):=by unfold n32;simp only[decide_eq_decide];omega
 have e2:((n32 h.mx).tmod 4==0)=decide (h.mx.toNat%4=0):=by
  unfold n32;rw[Int.tmod_eq_emod_of_nonneg (by omega),Bool.eq_iff_iff];simp;omega
 clear hP hb V F
 obtain⟨m,hm⟩:∃ m,m=n32 h.mx:=⟨_,rfl⟩
 rw[<-hm] at P10 e1 e2
 cases b with
 | false =>
  clear e1 e2 hm
  go_enter Tryz.func195,Tryz.ntmps195
  go_wp2_with (first|((with_reducible refine Se.iL 3 ?_);(refine Se.Ldw hs rfl rfl (Reads.blk 0 rfl) (by rw[PL.out];kernel_rfl) ?_))|((first|with_reducible refine Se.ab hs ?_|with_reducible refine Se.abc hs ?_);clear hs;(first|(generalize w.heap.size=g1;intro w hs)))|(go_at_call 192;refine Calls.mono (C.out _ _ hs) ?_;clear hs;rintro e w ⟨rfl,hs⟩))
  go_ret;exact⟨rfl,hs.drop⟩
 | true =>
  cases h1:decide (4096<=h.mx.toNat) with
  | false =>
   rw[h1] at e1;clear h1 e2 hm
   go_enter Tryz.func195,Tryz.ntmps195
   go_wp2_with (first|((with_reducible refine Se.iL 3 ?_);(refine Se.Ldw hs rfl rfl (Reads.blk 0 rfl) (by rw[PL.out];kernel_rfl) ?_))|((with_reducible refine Se.iL 7 ?_);(refine Se.Ld hs rfl rfl (Cell.blk 0 rfl P10.out) ?_))|((first|with_reducible refine Se.ab hs ?_|with_reducible refine Se.abc hs ?_);clear hs;(first|(generalize w.heap.size=g1;intro w hs)))|(go_at_call 192;refine Calls.mono (C.out _ _ hs) ?_;clear hs;rintro e w ⟨rfl,hs⟩))
   go_ret;exact⟨by simp_all,hs.drop⟩
  | true =>
   rw[h1] at e1
   obtain⟨b2,hb2⟩:∃ b2,b2=decide (h.mx.toNat%4=0):=⟨_,rfl⟩
   rw[<-hb2] at e2 ⊢;clear h1 hb2 hm
   go_enter Tryz.func195,Tryz.ntmps195
   go_wp2_with (first|((with_reducible refine Se.iL 3 ?_);(refine Se.Ldw hs rfl rfl (Reads.blk 0 rfl) (by rw[PL.out];kernel_rfl) ?_))|((with_reducible refine Se.iL 7 ?_);(refine Se.Ld hs rfl rfl (Cell.blk 0 rfl P10.out) ?_))|((with_reducible refine Se.iL 12 ?_);(refine Se.Ld hs rfl rfl (Cell.blk 0 rfl P10.out) ?_))|((first|with_reducible refine Se.ab hs ?_|with_reducible refine Se.abc hs ?_);clear hs;(first|(generalize w.heap.size=g1;intro w hs)))|(go_at_call 192;refine Calls.mono (C.out _ _ hs) ?_;clear hs;rintro e w ⟨rfl,hs⟩))
   go_ret;exact⟨by simp_all,hs.drop⟩
end Pd
end Go.Proofs.YtjnllcnknjlmmaaGreat
namespace Go.Proofs.YtjnllcnknjlmmaaGreat
open Go Go.RowKit
namespace Pd
open Se (St At Reads)
open Li (v8 Rd)
open Bv (n32)
variable {W0 w wx w':World} {L:List At}
theorem own_new(k:St w [] L w'):∀ b∈Se.ownedL L,w.heap.size<=b:=fun b hb=>by
 rcases Nat.lt_or_ge b w.heap.size with h|h
 ·exact absurd (k.may b hb h) (by simp)
 ·exact h
theorem lat(h:Hv.Ext W0 w)(k:St w [] L w'):St W0 [] L w':=Se.St.later h k (own_new k)
def Nown(W0:World)(n:Nat)(xs:List Value):Hv.Noisy:=⟨fun v=>∃ A c,v=.slice A n c,fun v w=>∀ A c,v=.slice A n c->∃ r,St W0 [] [.own 1 r A n c xs] w⟩
theorem Nown_ex(W0:World)(n:Nat)(xs:List Value):∃ v,(Nown W0 n xs).vv v:=⟨_,none,0,rfl⟩
theorem Nown_st{n:Nat}{xs:List Value}{v:Value}(h:Hv.Ext w w')(k:(Nown W0 n xs).ww v w):(Nown W0 n xs).ww v w':=fun A c e=>let ⟨r,s⟩:=k A c e;⟨r,s.ext h⟩
theorem Nown_new(h:Hv.Ext W0 wx){r:Option Nat}{A:Option Addr}{n c:Nat}{xs:List Value}(k:St wx [] [.own 1 r A n c xs] w'):Hv.Ext wx w'/\(Nown W0 n xs).vv (.slice A n c)/\(Nown W0 n xs).ww (.slice A n c) w' :=
 ⟨k.below,⟨A,c,rfl⟩,fun A' c' e=>by cases e;exact⟨r,lat h k⟩⟩
theorem Nown_rd{A:Option Addr}{n c:Nat}{xs:List Value}(k:(Nown W0 n xs).ww (.slice A n c) w):Rd w A xs:=by
 obtain⟨r,s⟩:=k A c rfl
 exact Se.Ow.rd (s.hold _ List.mem_cons_self)
theorem row_rd{l:List Value}{t:TypeId}{b n c:Nat}(k:(Hv.row l t).ww (.slice (some ⟨b,0,none⟩) n c) w):Rd w (some ⟨b,0,none⟩) l:=Li.Rd.of_blk (t:=t) (k b n c rfl)
def Nparts(k:Nat)(bs:List (BitVec 8)):Hv.Noisy:=⟨fun v=>∃ b,v=.slice (some ⟨b,0,none⟩) k k,fun v w=>∀ b,v=.slice (some ⟨b,0,none⟩) k k->∃ l:List Pt,l.length=k/\Rd w (some ⟨b,0,none⟩) (l.map Pt.v)/\(∀ p∈l,Rd w p.A (p.bs.map v8))/\flat l=bs⟩
theorem Nparts_ex(k:Nat)(bs:List (BitVec 8)):∃ v,(Nparts k bs).vv v:=⟨_,0,rfl⟩
theorem Nparts_st{k:Nat}{bs:List (BitVec 8)}{v:Value}(h:Hv.Ext w w')(q:(Nparts k bs).ww v w):(Nparts k bs).ww v w':=fun b e =>
 let ⟨l,h1,h2,h3,h4⟩:=q b e;⟨l,h1,h2.grow h,fun p hp=>(h3 p hp).grow h,h4⟩
theorem Nparts_bs(wx:World)(l:List Pt){o:Oper}{a:Act}{n:Nat}{ls:List (Nat × Operand)}(ho:o.op=.buildSlice 203 n ls.toArray)(hv:ls.map (fun p=>(p.1,a.eval p.2))=(l.map Pt.v).zipIdx.map fun p=>(p.2,p.1))(hn:n=l.length)(h0:n≠0)(hb:n<=16777216)(hr:∀ p∈l,Rd wx p.A (p.bs.map v8)){bs:List (BitVec 8)}(hbs:flat l=bs) :
  Hv.Gives Tryz.prog o a wx fun v w'=>Hv.Ext wx w'/\(Nparts n bs).vv v/\(Nparts n bs).ww v w':=by
 have hs:St wx [] [] wx:=St.start wx (by simp) rfl
 refine Se.bsv hs ho Tryz.underlying203 bysi rfl (l.map Pt.v) hv (by simpa using hn) h0 hb (by intro v hv;obtain⟨p,_,rfl⟩:=List.mem_map.1 hv;rfl) ?_;intro w' g _ h;refine⟨h.below,⟨g,rfl⟩,fun b e=>?_⟩
 cases e
 exact⟨l,hn.symm,Li.Rd.of_blk (h.hold _ List.mem_cons_self),fun p hp=>(hr p hp).grow h.below,hbs⟩
theorem start_rd(w:World)(l:List Pt){S:Option Addr}(h1:Rd w S (l.map Pt.v))(h2:∀ p∈l,Rd w p.A (p.bs.map v8)):St w [] (.rd S (l.map Pt.v)::l.map fun p=>At.rd p.A (p.bs.map v8)) w:=by
 refine St.start w ?_ ?_
 ·intro a ha
  rcases List.mem_cons.1 ha with rfl|ha
  ·exact h1
  ·obtain⟨p,hp,rfl⟩:=List.mem_map.1 ha
   exact h2 p hp
 ·simp only[Se.ownedL,List.flatMap_cons,List.flatMap_map,Se.At.owned]
  simp
theorem one_of{a:At}(h:St w [] (a::L) w'):St w [] [a] w':=h.sub (List.Sublist.cons_cons _ (List.nil_sublist _))
theorem number_any(w:World)(v:BitVec 32)(n:Nat)(hn:n<=4):Calls Tryz.prog 135 #[.int .u32 (n32 v),.int .i64 n] w fun e w'=>∃ r B c,e=.returned (.slice B n c)/\St w [] [.own 1 r B n c ((numL v n).map v8)] w' :=
 number_st (St.start w (by simp) rfl) v n hn
theorem fields_any(w:World)(m:Nat)(l:List Pt){S:Option Addr}{k cap:Nat}(hk:k=l.length)(hS:Rd w S (l.map Pt.v))(hp:∀ p∈l,Rd w p.A (p.bs.map v8)){bs:List (BitVec 8)}(hb:flat l=bs)(hle:bs.length<=m)(hm:m<=70368744177664)(hkl:k<=1000) :
  Calls Tryz.prog 137 #[.int .i64 m,.slice S k cap] w fun e w'=>∃ r B c',e=.returned (.slice B m c')/\St w [] [.own 1 r B m c' ((bs++zs (m-bs.length)).map v8)] w':=by
 subst hb;refine(fields_st (start_rd w l hS hp) m l hk (Reads.rd 0 rfl) (fun p hp=>Reads.rdm (List.mem_cons_of_mem _ (List.mem_map.2 ⟨p,hp,rfl⟩))) hle hm hkl).mono ?_;rintro e w' ⟨r,B,c,h1,h2⟩;exact⟨r,B,c,h1,one_of h2⟩
theorem fields_np(w:World)(m:Nat){b k:Nat}{bs:List (BitVec 8)}(h:(Nparts k bs).ww (.slice (some ⟨b,0,none⟩) k k) w)(hle:bs.length<=m)(hm:m<=70368744177664)(hkl:k<=1000){ys:List (BitVec 8)}(hy:bs++zs (m-bs.length)=ys) :
  Calls Tryz.prog 137 #[.int .i64 m,.slice (some ⟨b,0,none⟩) k k] w fun e w'=>∃ r B c',e=.returned (.slice B m c')/\St w [] [.own 1 r B m c' (ys.map v8)] w':=by
 subst hy
 obtain⟨l,h1,h2,h3,h4⟩:=h b rfl
 exact fields_any w m l h1.symm h2 h3 h4 hle hm hkl
theorem concat_np(w:World){b k:Nat}{bs:List (BitVec 8)}(h:(Nparts k bs).ww (.slice (some ⟨b,0,none⟩) k k) w){q:Nat}(hq:q=bs.length)(hm:q<=70368744177664)(hkl:k<=1000) :
  Calls Tryz.prog 133 #[.slice (some ⟨b,0,none⟩) k k] w fun e w'=>∃ r B c',e=.returned (.slice B q c')/\St w [] [.own 1 r B q c' (bs.map v8)] w':=by
 obtain⟨l,h1,h2,h3,h4⟩:=h b rfl
 refine(concat_st' (start_rd w l h2 h3) l h1.symm (Reads.rd 0 rfl) (fun p hp=>Reads.rdm (List.mem_cons_of_mem _ (List.mem_map.2 ⟨p,hp,rfl⟩))) h4 hq hm hkl).mono ?_;rintro e w' ⟨r,B,c,h1,h2⟩;exact⟨r,B,c,h1,one_of h2⟩
end Pd
end Go.Proofs.YtjnllcnknjlmmaaGreat
