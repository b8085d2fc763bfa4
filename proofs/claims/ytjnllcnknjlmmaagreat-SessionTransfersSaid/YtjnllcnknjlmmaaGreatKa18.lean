/- Layer 41. -/
import Derived.Test.YtjnllcnknjlmmaaGreatKa17
set_option linter.unusedSimpArgs false
set_option linter.unusedVariables false
set_option maxRecDepth 100000
set_option maxHeartbeats 4000000
namespace Go.Proofs.YtjnllcnknjlmmaaGreat
open Go Go.RowKit
namespace Sr
open Pd (Fm PDU framed pc iv fl fv)
open Se (St At Reads Cell)
open Li (v8 v8_one)
variable {w0 w:World} {X:List Nat} {L:List At} {s s':Rc} {g c:Nat} {B:Option Addr} {r:Option Nat}
attribute [local irreducible] Calls
theorem new_st(hs:St w0 X L w)(f:Fm)(mo:Int):Calls Tryz.prog 56 #[fv f,.int .i64 mo] w fun e w'=>(fits f mo=false/\e=.returned (.tuple #[.pointer none,iv 2])/\St w0 X L w')\/(fits f mo=true/\∃ g m,mo=(m:Nat)/\e=.returned (.tuple #[.pointer (some ⟨g,0,none⟩),iv 0])/\St w0 X (pR g { f:=f,mo:=m } none 0::pO none none 0 { f:=f,mo:=m }::L) w'):=by
 obtain⟨b,hb⟩:∃ b,framed f=b:=⟨_,rfl⟩
 obtain⟨F,hF⟩:∃ F,F=fl f:=⟨_,rfl⟩
 have FL:=Lib.hid (show F.length=3 by rw[hF];rfl)
 have CV:Hid (∀ (L':List At) (w:World),St w0 X (L'++L) w->Calls Tryz.prog 97 #[.agg F.toArray] w fun e w'=>e=.returned (.bool b)/\St w0 X (L'++L) w'):=Lib.hid (fun L' w hs=>by rw[hF,<-Pd.fv_eq,<-hb];exact valid_st hs f)
 have HF:=Lib.hid (show fits f mo=(b&&decide (128<=mo/\mo<=4194304)) by rw[<-hb];rfl)
 have BR:Hid (∀ (m:Nat) (w:World),mo=(m:Int)->(Instr.build 185 #[(0,.agg F.toArray),(1,.int .i64 mo)]).run Tryz.prog w=.ok (.agg (rcl { f:=f,mo:=m } none 0).toArray) w):=Lib.hid (fun m w h=>by rw[hF,h];kernel_rfl)
 rw[Pd.fv_eq,<-hF];clear hF hb
 cases b with
 | false =>
  go_enter Tryz.func56,Tryz.ntmps56
  go_wp2_with (first|((with_reducible refine Se.iL 6 ?_);(refine Se.Ldw hs rfl rfl (Reads.blk 0 rfl) (by rw[FL.out];kernel_rfl) ?_))|((first|with_reducible refine Se.ab hs ?_|with_reducible refine Se.abc hs ?_);clear hs;(first|(generalize w.heap.size=g2;intro w hs)))|(go_at_call 97;refine Calls.mono (CV.out [_] _ hs) ?_;clear hs;rintro e w ⟨rfl,hs⟩))
  go_ret2;exact .inl ⟨by rw[HF.out];rfl,rfl,hs.drop⟩
 | true =>
 by_cases h1:mo<128
 ·have h1':decide (mo<128)=true:=by simpa using h1
  have HX:Hid (fits f mo=false):=Lib.hid (by rw[HF.out];simp;omega)
  clear h1 HF
  go_enter Tryz.func56,Tryz.ntmps56
  go_wp2_with (first|((with_reducible refine Se.iL 6 ?_);(refine Se.Ldw hs rfl rfl (Reads.blk 0 rfl) (by rw[FL.out];kernel_rfl) ?_))|((first|with_reducible refine Se.ab hs ?_|with_reducible refine Se.abc hs ?_);clear hs;(first|(generalize w.heap.size=g2;intro w hs)))|(go_at_call 97;refine Calls.mono (CV.out [_] _ hs) ?_;clear hs;rintro e w ⟨rfl,hs⟩))
  go_ret2;exact .inl ⟨HX.out,rfl,hs.drop⟩
 by_cases h2:4194304<mo
 ·have h1':decide (mo<128)=false:=by simpa using h1
  have h2':decide (4194304<mo)=true:=by simpa using h2
  have HX:Hid (fits f mo=false):=Lib.hid (by rw[HF.out];simp;omega)
  clear h1 h2 HF
  go_enter Tryz.func56,Tryz.ntmps56
  go_wp2_with (first|((with_reducible refine Se.iL 6 ?_);(refine Se.Ldw hs rfl rfl (Reads.blk 0 rfl) (by rw[FL.out];kernel_rfl) ?_))|((first|with_reducible refine Se.ab hs ?_|with_reducible refine Se.abc hs ?_);clear hs;(first|(generalize w.heap.size=g2;intro w hs)))|(go_at_call 97;refine Calls.mono (CV.out [_] _ hs) ?_;clear hs;rintro e w ⟨rfl,hs⟩))
  go_ret2;exact .inl ⟨HX.out,rfl,hs.drop⟩
 ·have h1':decide (mo<128)=false:=by simpa using h1
  have h2':decide (4194304<mo)=false:=by simpa using h2
  have HX:Hid (fits f mo=true):=Lib.hid (by rw[HF.out];simp;omega)
  obtain⟨m,hm⟩:∃ m:Nat,mo=(m:Int):=⟨mo.toNat,by omega⟩
  have HM:=Lib.hid hm
  obtain⟨RL,hRL⟩:∃ RL,RL=rcl { f:=f,mo:=m } none 0:=⟨_,rfl⟩
  have BR2:Hid (∀ w:World,(Instr.build 185 #[(0,.agg F.toArray),(1,.int .i64 mo)]).run Tryz.prog w=.ok (.agg RL.toArray) w):=Lib.hid (fun w=>by rw[hRL];exact BR.out m w hm)
  have HRL:=Lib.hid hRL
  clear h1 h2 HF BR hm hRL
  go_enter Tryz.func56,Tryz.ntmps56
  go_wp2_with (first|((with_reducible refine Se.iL 6 ?_);(refine Se.Ldw hs rfl rfl (Reads.blk 0 rfl) (by rw[FL.out];kernel_rfl) ?_))|((with_reducible refine Se.iL 17 ?_);(refine Se.Ldw hs rfl rfl (Reads.blk 0 rfl) (by rw[FL.out];kernel_rfl) ?_))|((with_reducible refine Se.iL 19 ?_);(refine Se.Bd rfl rfl (BR2.out _) ?_))|((with_reducible refine Se.iL 20 ?_);(refine Se.toL rfl (Se.bx (o:=⟨some 20,_,_,_,_,_⟩) hs rfl rfl (l:=RL) rfl ?_);clear hs;rintro w g20-hs))|((first|with_reducible refine Se.ab hs ?_|with_reducible refine Se.abc hs ?_);clear hs;(first|(generalize w.heap.size=g2;intro w hs)))|(go_at_call 97;refine Calls.mono (CV.out [_] _ hs) ?_;clear hs;rintro e w ⟨rfl,hs⟩))
  go_ret2;refine .inr ⟨HX.out,g20,m,HM.out,rfl,?_⟩;rw[HRL.out] at hs
  have h3:=(hs.perm (List.Perm.swap _ _ _)).drop
  exact(h3.nil_own 1 none).perm (List.Perm.swap _ _ _)
theorem add_st(hs:St w0 X (pR g s B c::pO r B c s::L) w)(hm:s.mo≠0)(x:List (BitVec 8)){A:Option Addr}{n cx:Nat}(hn:n=x.length)(hx:Reads L A (x.map v8))(hl:s.b.length<=4194304)(hnl:n<=70368744177664){e:Nat}(hr:addE s x=(s',e)) :
  Calls Tryz.prog 60 #[.pointer (some ⟨g,0,none⟩),.slice A n cx] w fun e' w'=>∃ r' B' c',e'=.returned (iv e)/\St w0 X (pR g s' B' c'::pO r' B' c' s'::L) w':=by
 obtain⟨RL,hRL⟩:∃ RL,RL=rcl s B c:=⟨_,rfl⟩
 obtain⟨m,hm0⟩:∃ m,m=s.b.length:=⟨_,rfl⟩
 obtain⟨ee,hee⟩:∃ ee,ee=s.e:=⟨_,rfl⟩
 have CR:Hid (∀ (L:List At) (w:World),St w0 X (.blk g 185 RL::L) w->Calls Tryz.prog 99 #[.pointer (some ⟨g,0,none⟩)] w fun e w'=>e=.returned (iv ee)/\St w0 X (.blk g 185 RL::L) w'):=Lib.hid (fun L w hs=>by rw[hRL] at hs ⊢;rw[hee];exact ready_st hs hm)
 have R4:=Lib.hid (show RL[4]? = some (.slice B m c) by rw[hRL,hm0];rfl)
 have RLen:=Lib.hid (show RL.length=8 by rw[hRL];rfl)
 have HR2:Hid (∀ B' c',RL.set 4 (.slice B' (m+n) c')=rcl { s with b:=s.b++x } B' c'):=Lib.hid (fun B' c'=>by rw[hRL,hm0,hn];simp[rcl])
 have HX:=Lib.hid hx
 have HN:=Lib.hid hn
 have HM:=Lib.hid hm0
 have HRL:=Lib.hid hRL
 have HEE:=Lib.hid hee
 simp only[pR,pO] at hs ⊢;rw[<-hRL,<-hm0] at hs;unfold addE at hr;rw[<-hee,<-hm0,<-hn] at hr;clear hRL hm hx hn hee
 by_cases h0:ee=0
 ·rw[if_neg (by simpa using h0)] at hr
  subst h0
  have w1:IntKind.i64.wrap ((m:Int)+(n:Int))=((m+n:Nat):Int):=by rw[IntWalk.i64_in _ (by omega)];omega
  by_cases h1:4194304<m+n
  ·rw[if_pos h1] at hr
   cases hr
   have h1':decide ((4194304:Int)<(m:Int)+(n:Int))=true:=by simp;omega
   clear h1 hl hnl hm0
   go_enter Tryz.func60,Tryz.ntmps60
   go_wp2_with (first|((with_reducible refine Se.iL 14 ?_);(refine Se.Ld hs rfl rfl (Cell.blk 0 rfl R4.out) ?_))|(go_at_call 99;refine Calls.mono (CR.out _ _ hs) ?_;clear hs;rintro e w ⟨rfl,hs⟩))
   go_ret;exact⟨r,B,c,rfl,by rw[HRL.out,HM.out] at hs;exact hs⟩
  ·rw[if_neg h1] at hr
   cases hr
   have h1':decide ((4194304:Int)<(m:Int)+(n:Int))=false:=by simp;omega
   clear hm0
   go_enter Tryz.func60,Tryz.ntmps60
   go_wp2_with (first|((with_reducible refine Se.iL 14 ?_);(refine Se.Ld hs rfl rfl (Cell.blk 0 rfl R4.out) ?_))|((with_reducible refine Se.iL 24 ?_);(refine Se.Ld hs rfl rfl (Cell.blk 0 rfl R4.out) ?_))|((with_reducible refine Se.iL 26 ?_);(refine Se.toL rfl (Se.ap (o:=⟨some 26,_,_,_,_,_⟩) 1 hs rfl rfl rfl rfl (HX.out.app [_,_]) Tryz.underlying24 Pd.u8i3 rfl (by decide) (v8_one _) (by rw[List.length_map,HN.out,Nat.mul_one]) (by omega) (by omega) ?_);clear hs;rintro w r' B' c' hs;try simp only[pS] at hs))|((with_reducible refine Se.iN ?_);(refine Se.So 0 hs rfl rfl rfl (by rw[RLen.out];decide) ?_;clear hs;intro w hs;try simp only[pS] at hs))|(go_at_call 99;refine Calls.mono (CR.out _ _ hs) ?_;clear hs;rintro e w ⟨rfl,hs⟩))
   go_ret;refine⟨r',B',c',rfl,?_⟩;rw[HR2.out,<-List.map_append,<-HEE.out] at hs;simp only[List.length_append,<-HM.out,<-HN.out];exact hs
 ·rw[if_pos h0] at hr
  cases hr
  have e1:=(int_ne h0).1
  clear h0 hl hnl hm0
  go_enter Tryz.func60,Tryz.ntmps60
  go_wp2_with (first|(go_at_call 99;refine Calls.mono (CR.out _ _ hs) ?_;clear hs;rintro e w ⟨rfl,hs⟩))
  go_ret;exact⟨r,B,c,rfl,by rw[HRL.out,HM.out] at hs;exact hs⟩
end Sr
end Go.Proofs.YtjnllcnknjlmmaaGreat
namespace Go.Proofs.YtjnllcnknjlmmaaGreat
open Go Go.RowKit
namespace Se
variable {w0 w:World} {X:List Nat} {L:List At}
end Se
namespace Sr
open Pd (Fm PDU framed pc iv fl fv)
open Se (St At Reads Cell)
open Li (v8 v8_one)
variable {w0 w:World} {X:List Nat} {L:List At} {s s':Rc} {g c:Nat} {B:Option Addr} {r:Option Nat}
attribute [local irreducible] Calls
theorem bP0(w:World):(Instr.build 65 #[]).run Tryz.prog w=.ok (.agg (pc {} none 0 0 none 0 0).toArray) w:=by kernel_rfl
end Sr
end Go.Proofs.YtjnllcnknjlmmaaGreat
namespace Go.Proofs.YtjnllcnknjlmmaaGreat
open Go Go.RowKit
namespace Sr
open Pd (PDU meas dec pc iv fl)
open Se (St At Reads Cell)
open Li (v8 Rd Blk)
variable {w0 w:World} {X:List Nat} {L:List At} {s s':Rc} {g c:Nat} {B:Option Addr} {r:Option Nat}
attribute [local irreducible] Calls
theorem zP0:(Tryz.prog.info? 65).bind (fun i=>i.zero.map (·.cells.toList))=some (pc {} none 0 0 none 0 0):=by kernel_rfl
theorem pcl(P:List Value){h:Pd.Hd}{EA DA:Option Addr}{en ec dn dc:Nat}(hP:P=pc h EA en ec DA dn dc):P.length=14/\∀ v∈P,v.oneCell'=true:=by subst hP;exact⟨rfl,Pd.pc_one _ _ _ _ _ _ _⟩
theorem take_st(hs:St w0 X (pR g s B c::pO r B c s::L) w)(hl:s.b.length<=4194304){p:PDU}{n e:Nat}(hr:takeE s=(p,n,e)) :
  Calls Tryz.prog 139 #[.pointer (some ⟨g,0,none⟩)] w fun e' w'=>∃ r1 EA ec r2 DA dc PC,e'=.returned (.tuple #[.agg PC.toArray,iv n,iv e])/\Hid (PC=pc p.h EA p.en.length ec DA p.da.length dc)/\St w0 X (.own 1 r1 EA p.en.length ec (p.en.map v8)::.own 1 r2 DA p.da.length dc (p.da.map v8)::pR g s B c::pO r B c s::L) w':=by
 obtain⟨RL,hRL⟩:∃ RL,RL=rcl s B c:=⟨_,rfl⟩
 obtain⟨m,hm0⟩:∃ m,m=s.b.length:=⟨_,rfl⟩
 obtain⟨mo,hmo⟩:∃ m,m=s.mo:=⟨_,rfl⟩
 obtain⟨F,hF⟩:∃ F,F=fl s.f:=⟨_,rfl⟩
 obtain⟨⟨t,em⟩,hm⟩:∃ x,meas s.b s.f=x:=⟨_,rfl⟩
 obtain⟨Z,hZ⟩:∃ Z,Z=pc {} none 0 0 none 0 0:=⟨_,rfl⟩
 have FL:=Lib.hid (show F.length=3 by rw[hF];rfl)
 have ZL:=Lib.hid (show Z.length=14 by rw[hZ];rfl)
 have ZO:=Lib.hid (show ∀ v∈Z,v.oneCell'=true by rw[hZ];exact Pd.pc_one _ _ _ _ _ _ _)
 have HZ:Hid ((Tryz.prog.info? 65).bind (fun i=>i.zero.map (·.cells.toList))=some Z):=Lib.hid (by rw[hZ];exact zP0)
 have BP:Hid (∀ w:World,(Instr.build 65 #[]).run Tryz.prog w=.ok (.agg Z.toArray) w):=Lib.hid (by rw[hZ];exact bP0)
 have HZE:=Lib.hid hZ
 have RLen:=Lib.hid (show RL.length=8 by rw[hRL];rfl)
 have R3:=Lib.hid (show RL[3]? = some (iv mo) by rw[hRL,hmo];rfl)
 have R4:=Lib.hid (show RL[4]? = some (.slice B m c) by rw[hRL,hm0];rfl)
 have RF:=Lib.hid (show RL.take 3=F by rw[hRL,hF];rfl)
 have RDF:Hid (∀ (g:Nat) (T:TypeId) (wx:World),Blk wx g RL T->Rd wx (some ⟨g,0,none⟩) F):=Lib.hid (fun g T wx h=>by
  have h2:=(Li.Rd.of_blk h).take 3
  rwa [RF.out] at h2)
 have hBr:∀ M:List At,Reads (M++(pR g s B c::pO r B c s::L)) B (s.b.map v8):=fun M=>(Reads.own 1 rfl).app M
 have hcc:m<=c:=by rw[hm0];exact Pd.own_le hs (List.mem_cons_of_mem _ List.mem_cons_self)
 have CM:Hid (∀ (M:List At) (w:World),St w0 X (M++(pR g s B c::pO r B c s::L)) w->Calls Tryz.prog 167 #[.slice B m c,.agg F.toArray] w fun e w'=>e=.returned (.tuple #[iv t,iv em])/\St w0 X (M++(pR g s B c::pO r B c s::L)) w'):=Lib.hid (fun M w hs=>by rw[hF,<-Pd.fv_eq];exact Pd.measureD_st hs s.b s.f hm0 (hBr M) hcc (by omega) hm)
 have CD:Hid (∀ (M:List At) (w:World),t<=m->St w0 X (M++(pR g s B c::pO r B c s::L)) w->Calls Tryz.prog 168 #[.slice B t c,.agg F.toArray] w fun e w'=>∃ r1 EA ec r2 DA dc PC,e=.returned (.tuple #[.agg PC.toArray,iv (dec (s.b.take t) s.f).2])/\Hid (PC=pc (dec (s.b.take t) s.f).1.h EA (dec (s.b.take t) s.f).1.en.length ec DA (dec (s.b.take t) s.f).1.da.length dc)/\St w0 X (.own 1 r1 EA (dec (s.b.take t) s.f).1.en.length ec ((dec (s.b.take t) s.f).1.en.map v8)::.own 1 r2 DA (dec (s.b.take t) s.f).1.da.length dc ((dec (s.b.take t) s.f).1.da.map v8)::(M++(pR g s B c::pO r B c s::L))) w'):=Lib.hid (fun M w ht hs=>by
  rw[hF,<-Pd.fv_eq];exact Pd.decodeN_st hs (s.b.take t) s.f (by rw[List.length_take];omega) (by rw[List.map_take];exact(hBr M).take t) (by omega) (by omega) rfl)
 have HTE:Hid (takeE s=if m<8 then ({},0,9) else if em≠0 then ({},0,em) else if mo<t then ({},0,5) else if m<t then ({},0,9) else ((dec (s.b.take t) s.f).1,t,(dec (s.b.take t) s.f).2)):=Lib.hid (by unfold takeE;rw[hm,<-hm0,<-hmo])
 obtain⟨D,hD⟩:∃ D,D=dec (s.b.take t) s.f:=⟨_,rfl⟩
 rw[<-hD] at HTE CD
 have hml:m<=4194304:=by omega
 have hcc2:m<=c:=by omega
 rw[hr] at HTE;simp only[pR,pO] at hs CM CD ⊢;rw[<-hRL,<-hm0] at hs CM CD ⊢;clear hRL hm0 hmo hF hm hZ hD hr hl hBr
 have HT2:=HTE.out
 clear HTE
 by_cases h8:m<8
 ·rw[if_pos h8] at HT2
  cases HT2
  have a1:decide ((m:Int)<8)=true:=by simp;omega
  clear h8 CM CD
  go_enter Tryz.func139,Tryz.ntmps139
  go_wp2_with (first|((with_reducible refine Se.iL 2 ?_);(refine Se.Al hs rfl (HZ.out) ?_;clear hs;rintro w g2-hs))|((with_reducible refine Se.iL 11 ?_);(refine Se.Ld hs rfl rfl (Cell.blk 1 rfl R4.out) ?_))|((with_reducible refine Se.iL 14 ?_);(refine Se.Bd rfl rfl (BP.out _) ?_))|((with_reducible refine Se.iN ?_);(refine Se.Sow 0 hs rfl rfl rfl rfl (ZO.out) (by rw[ZL.out];kernel_rfl) (by rw[ZL.out]) ?_;clear hs;intro w hs;try simp only[pS] at hs)))
  refine Se.ret hs [.agg Z.toArray,iv 0,iv _] rfl ⟨Se.resRow rfl (Reads.blk 0 rfl) (by kernel_rfl) (by rw[ZL.out] <;> kernel_rfl),rfl,rfl,trivial⟩ (by simp) rfl ?_;exact⟨none,none,0,none,none,0,Z,rfl,HZE,(hs.drop.nil_own 1 none).nil_own 1 none⟩
 rw[if_neg h8] at HT2
 have a1:decide ((m:Int)<8)=false:=by simp;omega
 clear h8
 by_cases h0:em=0
 rotate_left
 ·rw[if_pos h0] at HT2
  cases HT2
  have a2:=(int_ne h0).1
  clear h0 CD
  go_enter Tryz.func139,Tryz.ntmps139
  go_upto_region 3 with (first|((with_reducible refine Se.iL 2 ?_);(refine Se.Al hs rfl (HZ.out) ?_;clear hs;rintro w g2-hs))|((with_reducible refine Se.iL 11 ?_);(refine Se.Ld hs rfl rfl (Cell.blk 1 rfl R4.out) ?_)))
  refine Ch.region' 14 (fun wx=>Blk wx g RL 185) (fun|8=>true|_=>false) (by kernel_rfl) (by decide +kernel) (hs.drew.hold (.blk g 185 RL) (by simp)) ?_;replace hs:=hs.drew;generalize w.drew=w at hs ⊢;change Ch.CW _ _ _ _ _ [0,1,2,3,4,5,6,7,8,9,10,11,12,13] _ _
  iterate 8 ((first|refine Ch.pA ?_|refine Ch.pE (hv:=fun wx hS=>Se.xL (hc:=(by rw[hS.cell];exact R4.out))) (h:=?_)|refine Ch.pE (hv:=fun wx hS=>Se.xR (hr:=(RDF.out _ _ _ hS)) (hi:=(by rw[FL.out] <;> kernel_rfl))) (h:=?_));(try simp only[pU]))
  refine Ch.cA (f:=167) (args:=#[.slice B m c,.agg F.toArray]) (CM.out [_] _ hs) ?_;clear hs;rintro e w⟨rfl,hs⟩;refine⟨_,rfl,hs.hold (.blk g 185 RL) (by simp),?_⟩;(try simp only[pU])
  iterate 5 (refine Ch.pA ?_;(try simp only[pU]))
  refine Ch.done ?_
  try simp only[List.drop_succ_cons,List.drop_zero]
  go_wp2_with (first|((with_reducible refine Se.iL 37 ?_);(refine Se.Ld hs rfl rfl (Cell.blk 1 rfl R3.out) ?_))|((with_reducible refine Se.iL 44 ?_);(refine Se.Ld hs rfl rfl (Cell.blk 1 rfl R4.out) ?_))|((with_reducible refine Se.iL 30 ?_);(refine Se.Bd rfl rfl (BP.out _) ?_))|((with_reducible refine Se.iN ?_);(refine Se.Sow 0 hs rfl rfl rfl rfl (ZO.out) (by rw[ZL.out];kernel_rfl) (by rw[ZL.out]) ?_;clear hs;intro w hs;try simp only[pS] at hs)))
  refine Se.ret hs [.agg Z.toArray,iv 0,iv _] rfl ⟨Se.resRow rfl (Reads.blk 0 rfl) (by kernel_rfl) (by rw[ZL.out] <;> kernel_rfl),rfl,rfl,trivial⟩ (by simp) rfl ?_;exact⟨none,none,0,none,none,0,Z,rfl,HZE,(hs.drop.nil_own 1 none).nil_own 1 none⟩
 subst h0;rw[if_neg (by decide)] at HT2
 by_cases h1:mo<t
 ·rw[if_pos h1] at HT2
  cases HT2
  have a3:decide (mo<t)=true:=by simpa using h1
  have a3':decide ((mo:Int)<(t:Int))=true:=by simpa using h1
  clear h1 CD
  go_enter Tryz.func139,Tryz.ntmps139
  go_upto_region 3 with (first|((with_reducible refine Se.iL 2 ?_);(refine Se.Al hs rfl (HZ.out) ?_;clear hs;rintro w g2-hs))|((with_reducible refine Se.iL 11 ?_);(refine Se.Ld hs rfl rfl (Cell.blk 1 rfl R4.out) ?_)))
  refine Ch.region' 14 (fun wx=>Blk wx g RL 185) (fun|8=>true|_=>false) (by kernel_rfl) (by decide +kernel) (hs.drew.hold (.blk g 185 RL) (by simp)) ?_;replace hs:=hs.drew;generalize w.drew=w at hs ⊢;change Ch.CW _ _ _ _ _ [0,1,2,3,4,5,6,7,8,9,10,11,12,13] _ _
  iterate 8 ((first|refine Ch.pA ?_|refine Ch.pE (hv:=fun wx hS=>Se.xL (hc:=(by rw[hS.cell];exact R4.out))) (h:=?_)|refine Ch.pE (hv:=fun wx hS=>Se.xR (hr:=(RDF.out _ _ _ hS)) (hi:=(by rw[FL.out] <;> kernel_rfl))) (h:=?_));(try simp only[pU]))
  refine Ch.cA (f:=167) (args:=#[.slice B m c,.agg F.toArray]) (CM.out [_] _ hs) ?_;clear hs;rintro e w⟨rfl,hs⟩;refine⟨_,rfl,hs.hold (.blk g 185 RL) (by simp),?_⟩;(try simp only[pU])
  iterate 5 (refine Ch.pA ?_;(try simp only[pU]))
  refine Ch.done ?_
  try simp only[List.drop_succ_cons,List.drop_zero]
  go_wp2_with (first|((with_reducible refine Se.iL 37 ?_);(refine Se.Ld hs rfl rfl (Cell.blk 1 rfl R3.out) ?_))|((with_reducible refine Se.iL 44 ?_);(refine Se.Ld hs rfl rfl (Cell.blk 1 rfl R4.out) ?_))|((with_reducible refine Se.iL 39 ?_);(refine Se.Bd rfl rfl (BP.out _) ?_))|((with_reducible refine Se.iN ?_);(refine Se.Sow 0 hs rfl rfl rfl rfl (ZO.out) (by rw[ZL.out];kernel_rfl) (by rw[ZL.out]) ?_;clear hs;intro w hs;try simp only[pS] at hs)))
  refine Se.ret hs [.agg Z.toArray,iv 0,iv _] rfl ⟨Se.resRow rfl (Reads.blk 0 rfl) (by kernel_rfl) (by rw[ZL.out] <;> kernel_rfl),rfl,rfl,trivial⟩ (by simp) rfl ?_;exact⟨none,none,0,none,none,0,Z,rfl,HZE,(hs.drop.nil_own 1 none).nil_own 1 none⟩
 rw[if_neg h1] at HT2
 have a3:decide (mo<t)=false:=by simpa using h1
 have a3':decide ((mo:Int)<(t:Int))=false:=by simpa using h1
 clear h1
 by_cases h2:m<t
 ·rw[if_pos h2] at HT2
  cases HT2
  have a4:decide (m<t)=true:=by simpa using h2
  have a4':decide ((m:Int)<(t:Int))=true:=by simpa using h2
  clear h2 CD
  go_enter Tryz.func139,Tryz.ntmps139
  go_upto_region 3 with (first|((with_reducible refine Se.iL 2 ?_);(refine Se.Al hs rfl (HZ.out) ?_;clear hs;rintro w g2-hs))|((with_reducible refine Se.iL 11 ?_);(refine Se.Ld hs rfl rfl (Cell.blk 1 rfl R4.out) ?_)))
  refine Ch.region' 14 (fun wx=>Blk wx g RL 185) (fun|8=>true|_=>false) (by kernel_rfl) (by decide +kernel) (hs.drew.hold (.blk g 185 RL) (by simp)) ?_;replace hs:=hs.drew;generalize w.drew=w at hs ⊢;change Ch.CW _ _ _ _ _ [0,1,2,3,4,5,6,7,8,9,10,11,12,13] _ _
  iterate 8 ((first|refine Ch.pA ?_|refine Ch.pE (hv:=fun wx hS=>Se.xL (hc:=(by rw[hS.cell];exact R4.out))) (h:=?_)|refine Ch.pE (hv:=fun wx hS=>Se.xR (hr:=(RDF.out _ _ _ hS)) (hi:=(by rw[FL.out] <;> kernel_rfl))) (h:=?_));(try simp only[pU]))
  refine Ch.cA (f:=167) (args:=#[.slice B m c,.agg F.toArray]) (CM.out [_] _ hs) ?_;clear hs;rintro e w⟨rfl,hs⟩;refine⟨_,rfl,hs.hold (.blk g 185 RL) (by simp),?_⟩;(try simp only[pU])
  iterate 5 (refine Ch.pA ?_;(try simp only[pU]))
  refine Ch.done ?_
  try simp only[List.drop_succ_cons,List.drop_zero]
  go_wp2_with (first|((with_reducible refine Se.iL 37 ?_);(refine Se.Ld hs rfl rfl (Cell.blk 1 rfl R3.out) ?_))|((with_reducible refine Se.iL 44 ?_);(refine Se.Ld hs rfl rfl (Cell.blk 1 rfl R4.out) ?_))|((with_reducible refine Se.iL 48 ?_);(refine Se.Bd rfl rfl (BP.out _) ?_))|((with_reducible refine Se.iN ?_);(refine Se.Sow 0 hs rfl rfl rfl rfl (ZO.out) (by rw[ZL.out];kernel_rfl) (by rw[ZL.out]) ?_;clear hs;intro w hs;try simp only[pS] at hs)))
  refine Se.ret hs [.agg Z.toArray,iv 0,iv _] rfl ⟨Se.resRow rfl (Reads.blk 0 rfl) (by kernel_rfl) (by rw[ZL.out] <;> kernel_rfl),rfl,rfl,trivial⟩ (by simp) rfl ?_;exact⟨none,none,0,none,none,0,Z,rfl,HZE,(hs.drop.nil_own 1 none).nil_own 1 none⟩
 rw[if_neg h2] at HT2;simp only[Prod.mk.injEq] at HT2
 obtain⟨hp1,hp2,hp3⟩:=HT2
 replace hp2:=hp2.symm
 subst hp1 hp2 hp3
 have a4:decide (m<t)=false:=by simpa using h2
 have a4':decide ((m:Int)<(t:Int))=false:=by simpa using h2
 have HTM:=Lib.hid (show t<=m by omega)
 have b1:(t:Int)<=(c:Int):=by have:=HTM.out;omega
 have b2:t<=c:=by have:=HTM.out;omega
 clear h2
 go_enter Tryz.func139,Tryz.ntmps139
 go_upto_region 3 with (first|((with_reducible refine Se.iL 2 ?_);(refine Se.Al hs rfl (HZ.out) ?_;clear hs;rintro w g2-hs))|((with_reducible refine Se.iL 11 ?_);(refine Se.Ld hs rfl rfl (Cell.blk 1 rfl R4.out) ?_)))
 refine Ch.region' 14 (fun wx=>Blk wx g RL 185) (fun|8=>true|_=>false) (by kernel_rfl) (by decide +kernel) (hs.drew.hold (.blk g 185 RL) (by simp)) ?_;replace hs:=hs.drew;generalize w.drew=w at hs ⊢;change Ch.CW _ _ _ _ _ [0,1,2,3,4,5,6,7,8,9,10,11,12,13] _ _
 iterate 8 ((first|refine Ch.pA ?_|refine Ch.pE (hv:=fun wx hS=>Se.xL (hc:=(by rw[hS.cell];exact R4.out))) (h:=?_)|refine Ch.pE (hv:=fun wx hS=>Se.xR (hr:=(RDF.out _ _ _ hS)) (hi:=(by rw[FL.out] <;> kernel_rfl))) (h:=?_));(try simp only[pU]))
 refine Ch.cA (f:=167) (args:=#[.slice B m c,.agg F.toArray]) (CM.out [_] _ hs) ?_;clear hs;rintro e w⟨rfl,hs⟩;refine⟨_,rfl,hs.hold (.blk g 185 RL) (by simp),?_⟩;(try simp only[pU])
 iterate 5 (refine Ch.pA ?_;(try simp only[pU]))
 refine Ch.done ?_
 try simp only[List.drop_succ_cons,List.drop_zero]
 go_upto_region 10 with (first|((with_reducible refine Se.iL 37 ?_);(refine Se.Ld hs rfl rfl (Cell.blk 1 rfl R3.out) ?_))|((with_reducible refine Se.iL 44 ?_);(refine Se.Ld hs rfl rfl (Cell.blk 1 rfl R4.out) ?_)))
 go_cut [7,6] (fun s7 s6 wx=>∃ g7 r1 EA ec r2 DA dc PC,s7=.pointer (some ⟨g7,0,none⟩)/\s6=iv D.2/\Hid (PC=pc D.1.h EA D.1.en.length ec DA D.1.da.length dc)/\St w0 X ([.blk g7 65 PC,.own 1 r1 EA D.1.en.length ec (D.1.en.map v8),.own 1 r2 DA D.1.da.length dc (D.1.da.map v8),.blk g2 65 Z,.blk g 185 RL,.own 1 r B m c (s.b.map v8)]++L) wx)
 case first =>
  refine Or.region 17 (fun wx=>Blk wx g RL 185) (fun|10=>true|14=>true|15=>true|_=>false) (by kernel_rfl) (by decide +kernel) (hs.drew.hold (.blk g 185 RL) (by simp)) ?_;replace hs:=hs.drew;generalize w.drew=w at hs ⊢;change Or.AW _ _ _ _ _ 17 [0,1,2,3,4,5,6,7,8,9,10,11,12,13,14,15,16] _ _;refine Or.pA 0 ?_;(try simp only[pU]);change Or.AW _ _ _ _ _ 16 [1,2,3,4,5,6,7,8,9,10,11,12,13,14,15,16] _ _;refine Or.pA 1 ?_;(try simp only[pU]);change Or.AW _ _ _ _ _ 15 [2,3,4,5,6,7,8,9,10,11,12,13,14,15,16] _ _;refine Or.pA 2 ?_;(try simp only[pU]);change Or.AW _ _ _ _ _ 14 [3,4,5,6,7,8,9,10,11,12,13,14,15,16] _ _;refine Or.pE 3 (v:=.slice B m c) (hv:=fun wx hS=>Se.xl rfl rfl (by rw[hS.cell];exact R4.out) (by decide +kernel)) (h:=?_);(try simp only[pU]);change Or.AW _ _ _ _ _ 13 [4,5,6,7,8,9,10,11,12,13,14,15,16] _ _;refine Or.pA 4 ?_;(try simp only[pU]);change Or.AW _ _ _ _ _ 12 [5,6,7,8,9,10,11,12,13,14,15,16] _ _;refine Or.pA 5 ?_;(try simp only[pU]);change Or.AW _ _ _ _ _ 11 [6,7,8,9,10,11,12,13,14,15,16] _ _;refine Or.pA 6 ?_;(try simp only[pU]);change Or.AW _ _ _ _ _ 10 [7,8,9,10,11,12,13,14,15,16] _ _;refine Or.pA 7 ?_;(try simp only[pU]);change Or.AW _ _ _ _ _ 9 [8,9,10,11,12,13,14,15,16] _ _;refine Or.pA 8 ?_;(try simp only[pU]);change Or.AW _ _ _ _ _ 8 [9,10,11,12,13,14,15,16] _ _;refine Or.pE 9 (v:=.agg F.toArray) (hv:=fun wx hS=>Se.xla rfl rfl (RDF.out _ _ _ hS) (by rw[FL.out] <;> kernel_rfl) (by kernel_rfl)) (h:=?_);(try simp only[pU]);change Or.AW _ _ _ _ _ 7 [10,11,12,13,14,15,16] _ _;refine Or.two 10 14 (by decide +kernel) (by decide +kernel) (by rfl) (by rfl) (by rfl) (by rfl) ?_ ?_
  ·skip
   refine Se.gcall (f:=168) (args:=#[.slice B t c,.agg F.toArray]) ?_ ?_
   ·go_simp
   refine Calls.mono (CD.out [_] _ HTM.out hs) ?_;clear hs;rintro e w⟨r1,EA,ec,r2,DA,dc,PC,rfl,HPC,hs⟩;simp only[List.cons_append,List.nil_append] at hs;refine⟨_,rfl,hs.hold (.blk g 185 RL) (by simp),?_⟩
   have PCL:=Lib.hid (pcl PC HPC.out).1
   have PCO:=Lib.hid (pcl PC HPC.out).2
   (try simp only[pU]);change Or.AW _ _ _ _ _ 6 [11,12,13,14,15,16] _ _;refine Or.pA 11 ?_;(try simp only[pU]);change Or.AW _ _ _ _ _ 5 [12,13,14,15,16] _ _;refine Or.pA 12 ?_;(try simp only[pU]);change Or.AW _ _ _ _ _ 4 [13,14,15,16] _ _;refine Or.pA 13 ?_;(try simp only[pU]);change Or.AW _ _ _ _ _ 3 [14,15,16] _ _;refine Or.one 14 (by decide +kernel) (by decide +kernel) (by rfl) (by rfl) ?_;refine Se.al hs rfl HZ.out ?_;clear hs;rintro w g7-hs;refine⟨hs.hold (.blk g 185 RL) (by simp),?_⟩;(try simp only[pU]);change Or.AW _ _ _ _ _ 2 [15,16] _ _;refine Or.one 15 (by decide +kernel) (by decide +kernel) (by rfl) (by rfl) ?_;refine Se.sow 0 (vs:=PC) hs rfl rfl rfl rfl PCO.out (by rw[PCL.out] <;> kernel_rfl) (by rw[PCL.out,ZL.out]) ?_;clear hs;intro w hs;simp only[List.cons_append,List.nil_append,List.set_cons_zero,List.set_cons_succ] at hs;refine⟨hs.hold (.blk g 185 RL) (by simp),?_⟩
   (try simp only[Act.put])
   change Or.AW _ _ _ _ _ 1 [16] _ _;refine Or.pA 16 ?_;(try simp only[pU]);change Or.AW _ _ _ _ _ 0 [] _ _;refine Or.done ?_;simp only[List.drop_succ_cons,List.drop_zero]
   go_wp2_with fail
   go_meet;exact⟨g7,r1,EA,ec,r2,DA,dc,PC,rfl,rfl,HPC,hs⟩
  ·skip
   refine Se.al hs rfl HZ.out ?_;clear hs;rintro w g7-hs;refine⟨hs.hold (.blk g 185 RL) (by simp),?_⟩;(try simp only[pU]);change Or.AW _ _ _ _ _ 6 [10,11,12,13,15,16] _ _;refine Or.one 10 (by decide +kernel) (by decide +kernel) (by rfl) (by rfl) ?_;refine Se.gcall (f:=168) (args:=#[.slice B t c,.agg F.toArray]) ?_ ?_
   ·go_simp
   refine Calls.mono (CD.out [_,_] _ HTM.out hs) ?_;clear hs;rintro e w⟨r1,EA,ec,r2,DA,dc,PC,rfl,HPC,hs⟩;simp only[List.cons_append,List.nil_append] at hs;refine⟨_,rfl,hs.hold (.blk g 185 RL) (by simp),?_⟩
   have PCL:=Lib.hid (pcl PC HPC.out).1
   have PCO:=Lib.hid (pcl PC HPC.out).2
   (try simp only[pU]);change Or.AW _ _ _ _ _ 5 [11,12,13,15,16] _ _;refine Or.pA 11 ?_;(try simp only[pU]);change Or.AW _ _ _ _ _ 4 [12,13,15,16] _ _;refine Or.pA 12 ?_;(try simp only[pU]);change Or.AW _ _ _ _ _ 3 [13,15,16] _ _;refine Or.pA 13 ?_;(try simp only[pU]);change Or.AW _ _ _ _ _ 2 [15,16] _ _;refine Or.one 15 (by decide +kernel) (by decide +kernel) (by rfl) (by rfl) ?_;refine Se.sow 2 (vs:=PC) hs rfl rfl rfl rfl PCO.out (by rw[PCL.out] <;> kernel_rfl) (by rw[PCL.out,ZL.out]) ?_;clear hs;intro w hs;simp only[List.cons_append,List.nil_append,List.set_cons_zero,List.set_cons_succ] at hs;refine⟨hs.hold (.blk g 185 RL) (by simp),?_⟩
   (try simp only[Act.put])
   change Or.AW _ _ _ _ _ 1 [16] _ _;refine Or.pA 16 ?_;(try simp only[pU]);change Or.AW _ _ _ _ _ 0 [] _ _;refine Or.done ?_;simp only[List.drop_succ_cons,List.drop_zero]
   go_wp2_with fail
   go_meet;replace hs:=hs.pull 1 rfl;replace hs:=hs.pull 1 rfl;replace hs:=hs.pull 2 rfl;simp only[List.eraseIdx_cons_succ,List.eraseIdx_cons_zero] at hs;exact⟨g7,r1,EA,ec,r2,DA,dc,PC,rfl,rfl,HPC,hs⟩
 case rest =>
 clear hs
 obtain⟨g7,r1,EA,ec,r2,DA,dc,PC,rfl,rfl,HPC,hs⟩:=hcut
 rename World=>w
 have PCL:=Lib.hid (pcl PC HPC.out).1
 have PCO:=Lib.hid (pcl PC HPC.out).2
 go_wp2_with (first|((with_reducible refine Se.iL 63 ?_);(refine Se.Ldw hs rfl rfl (Reads.blk 0 rfl) (by rw[PCL.out];kernel_rfl) ?_))|((with_reducible refine Se.iN ?_);(refine Se.Sow 3 hs rfl rfl rfl rfl (PCO.out) (by rw[PCL.out];kernel_rfl) (by rw[PCL.out,ZL.out]) ?_;clear hs;intro w hs;try simp only[pS] at hs)))
 refine Se.ret hs [.agg PC.toArray,iv t,iv _] rfl ⟨Se.resRow rfl (Reads.blk 3 rfl) (by kernel_rfl) (by rw[PCL.out] <;> kernel_rfl),rfl,rfl,trivial⟩ (by simp) rfl ?_;exact⟨r1,EA,ec,r2,DA,dc,PC,rfl,HPC,hs.drop.sub (List.Sublist.cons_cons _ (List.Sublist.cons_cons _ (.cons _ (List.Sublist.refl _))))⟩
end Sr
end Go.Proofs.YtjnllcnknjlmmaaGreat
namespace Go.Proofs.YtjnllcnknjlmmaaGreat
open Go Go.RowKit
namespace Sr
open Pd (PDU pc iv)
open Se (St At Reads Cell)
open Li (v8 Rd Blk)
variable {w0 w:World} {X:List Nat} {L:List At} {s s':Rc} {g c:Nat} {B:Option Addr} {r:Option Nat}
attribute [local irreducible] Calls
def eat(s:Rc)(n:Nat):Rc:={ s with b:=s.b.drop n,nb:=s.nb+n,np:=s.np+1 }
def compM(b1 b2 g g3:Nat)(s:Rc)(B:Option Addr)(c:Nat)(r:Option Nat)(e:Nat):List At:=[.blk b1 77 [.pointer (some ⟨g,0,none⟩)],.blk b2 192 [.pointer (some ⟨g3,0,none⟩)],pR g s B c,pO r B c s,.blk g3 30 [iv e]]
def compY(b1 b2 g g3:Nat)(s:Rc)(p:PDU)(n e:Nat)(x:Array Value)(M1:List At):Prop :=
 e=0/\∃ r1 EA ec r2 DA dc PC r' B' c',x=#[.agg PC.toArray,iv n]/\Hid (PC=pc p.h EA p.en.length ec DA p.da.length dc)/\M1=.own 1 r1 EA p.en.length ec (p.en.map v8)::.own 1 r2 DA p.da.length dc (p.da.map v8)::compM b1 b2 g g3 (eat s n) B' c' r' 0
theorem sl_from{A:Option Addr}{bs:List (BitVec 8)}{k n c:Nat}(h:Reads L A (bs.map v8))(hk:k<=bs.length)(hc:c=k->bs.length<=k):Reads L (if c=k then A else A.map (·.add k)) ((bs.drop k).map v8):=fun w hw=>by
 have:=Se.Rd.drop (h w hw) k c (by simpa using hk) (fun e=>by simpa using hc e)
 rwa [<-List.map_drop] at this
theorem comp_seq(b1 b2 g3 e0:Nat){p:PDU}{n e:Nat}(hr:takeE s=(p,n,e))(hl:s.b.length<=4194304)(hnb:s.nb+s.b.length<=70368744177664)(hnp:s.np<=70368744177664) :
  Se.SeqOne Tryz.prog 138 #[.pointer (some ⟨b1,0,none⟩),.pointer (some ⟨b2,0,none⟩)] w0 X (compM b1 b2 g g3 s B c r e0) (compM b1 b2 g g3 s B c r e) (e≠0) (compY b1 b2 g g3 s p n e):=by
 intro l Jx T w hs hY
 have CT:Hid (∀ (w:World),St w0 X (compM b1 b2 g g3 s B c r e0++T) w->Calls Tryz.prog 139 #[.pointer (some ⟨g,0,none⟩)] w fun e' w'=>∃ r1 EA ec r2 DA dc PC,e'=.returned (.tuple #[.agg PC.toArray,iv n,iv e])/\Hid (PC=pc p.h EA p.en.length ec DA p.da.length dc)/\St w0 X (.own 1 r1 EA p.en.length ec (p.en.map v8)::.own 1 r2 DA p.da.length dc (p.da.map v8)::(compM b1 b2 g g3 s B c r e0++T)) w'):=Lib.hid (fun w hs=>by
  have h1:St w0 X (pR g s B c::pO r B c s::.blk b1 77 [.pointer (some ⟨g,0,none⟩)]::.blk b2 192 [.pointer (some ⟨g3,0,none⟩)]::.blk g3 30 [iv e0]::T) w:=hs.perm (List.perm_append_comm (l₁:=[.blk b1 77 [.pointer (some ⟨g,0,none⟩)],.blk b2 192 [.pointer (some ⟨g3,0,none⟩)]]) (l₂:=[pR g s B c,pO r B c s]) |>.append_right _)
  refine(take_st h1 hl hr).mono ?_;rintro e' w' ⟨r1,EA,ec,r2,DA,dc,PC,h2,h3,h4⟩;exact⟨r1,EA,ec,r2,DA,dc,PC,h2,h3,h4.perm (List.Perm.cons _ (List.Perm.cons _ (List.perm_append_comm (l₁:=[pR g s B c,pO r B c s]) (l₂:=[.blk b1 77 [.pointer (some ⟨g,0,none⟩)],.blk b2 192 [.pointer (some ⟨g3,0,none⟩)]]) |>.append_right _)))⟩)
 obtain⟨RL,hRL⟩:∃ RL,RL=rcl s B c:=⟨_,rfl⟩
 obtain⟨m,hm0⟩:∃ m,m=s.b.length:=⟨_,rfl⟩
 obtain⟨nb,hnb0⟩:∃ m,m=s.nb:=⟨_,rfl⟩
 obtain⟨np,hnp0⟩:∃ m,m=s.np:=⟨_,rfl⟩
 have htl:=take_len hr
 have hcc:m<=c:=by rw[hm0];exact Pd.own_le (s:=1) (r:=r) (A:=B) (xs:=s.b.map v8) hs (by simp[compM])
 have HZ:=Lib.hid zP0
 have RLen:=Lib.hid (show RL.length=8 by rw[hRL];rfl)
 have R4:=Lib.hid (show RL[4]? = some (.slice B m c) by rw[hRL,hm0];rfl)
 have R6:=Lib.hid (show ∀ v,(RL.set 4 v)[6]? = some (iv nb) by rw[hRL,hnb0];intro v;rfl)
 have R7:=Lib.hid (show ∀ v,(RL.set 4 v)[7]? = some (iv np) by rw[hRL,hnp0];intro v;rfl)
 have R7b:=Lib.hid (show ∀ v u,((RL.set 4 v).set 6 u)[7]? = some (iv np) by rw[hRL,hnp0];intro v u;rfl)
 have HR2:Hid (∀ B' c',((RL.set 4 (.slice B' (m-n) c')).set 6 (iv (nb+n))).set 7 (.int .i64 ((np:Int)+1))=rcl (eat s n) B' c'):=Lib.hid (fun B' c'=>by rw[hRL,hm0,hnb0,hnp0];simp[rcl,eat])
 have HB:Hid (∀ M:List At,Reads (M++.own 1 r B m c (s.b.map v8)::.blk g3 30 [iv e]::T) (if c=n then B else B.map (·.add n)) ((s.b.drop n).map v8)):=Lib.hid (fun M=>(sl_from (n:=n) (Reads.own 0 rfl) htl (fun h=>by omega)).app M)
 have HM:=Lib.hid hm0
 have HRL:=Lib.hid hRL
 have HY:=Lib.hid hY
 have hnm:n<=m:=by omega
 have hml:m<=4194304:=by omega
 have w1:IntKind.i64.wrap ((nb:Int)+(n:Int))=((nb+n:Nat):Int):=by rw[IntWalk.i64_in _ (by omega)];omega
 have w2:IntKind.i64.wrap ((np:Int)+1)=((np+1:Nat):Int):=by rw[IntWalk.i64_in _ (by omega)];omega
 rw[show(#[Value.func (.yield l) #[] #[]]++#[Value.pointer (some ⟨b1,0,none⟩),.pointer (some ⟨b2,0,none⟩)]:Array Value)=#[.func (.yield l) #[] #[],.pointer (some ⟨b1,0,none⟩),.pointer (some ⟨b2,0,none⟩)] from rfl];simp only[compM,pR,pO,List.cons_append,List.nil_append] at hs CT ⊢;rw[<-hRL,<-hm0] at hs CT ⊢;clear hr hl hnb hnp hRL hm0 hnb0 hnp0 htl hY
 go_enter Tryz.func138,Tryz.ntmps138
 go_wp2_with fail
 go_loopg [4,5,6,7] 0 (fun gh s4 s5 s6 s7 wr=>gh=0/\St w0 X (.blk b1 77 [.pointer (some ⟨g,0,none⟩)]::.blk b2 192 [.pointer (some ⟨g3,0,none⟩)]::.blk g 185 RL::.own 1 r B m c (s.b.map v8)::.blk g3 30 [iv e0]::T) wr)
 case atStart=>exact⟨rfl,hs⟩
 case round =>
  clear hs
  rename World=>w
  obtain⟨rfl,hs⟩:=hrel
  go_upto_region 1 with (first|((with_reducible refine Se.iL 8 ?_);(refine Se.Ld hs rfl rfl (Cell.blk 0 rfl rfl) ?_))|((with_reducible refine Se.iL 4 ?_);(refine Se.Al hs rfl (HZ.out) ?_;clear hs;rintro w g4-hs))|((with_reducible refine Se.iN ?_);(refine Se.Sow 0 hs rfl rfl rfl rfl (by exact(pcl _ HPC.out).2) (by rw[(pcl _ HPC.out).1];kernel_rfl) (by rw[(pcl _ HPC.out).1];rfl) ?_;clear hs;intro w hs;try simp only[pS] at hs))|(go_at_call 139;refine Calls.mono (CT.out _ hs) ?_;clear hs;rintro e w ⟨r1,EA,ec,r2,DA,dc,PC,rfl,HPC,hs⟩))
  have PCL:=Lib.hid (pcl PC HPC.out).1
  by_cases h0:e=0
  rotate_left
  ·have e1:=(int_ne h0).1
   have HE:=Lib.hid h0
   clear h0 HB HY
   go_wp2_with (first|((with_reducible refine Se.iL 13 ?_);(refine Se.Ld hs rfl rfl (Cell.blk 4 rfl rfl) ?_))|((with_reducible refine Se.iN ?_);(refine Se.So 7 hs rfl rfl rfl (by simp) ?_;clear hs;intro w hs;try simp only[pS] at hs)))
   refine⟨rfl,_,results_none rfl _ _ _,⟨_,rfl⟩,.inl ⟨HE.out,?_⟩⟩;exact hs.drop.drop.drop
  ·subst h0
   go_upto_region 3 with (first|((with_reducible refine Se.iL 13 ?_);(refine Se.Ld hs rfl rfl (Cell.blk 4 rfl rfl) ?_))|((with_reducible refine Se.iN ?_);(refine Se.So 7 hs rfl rfl rfl (by simp) ?_;clear hs;intro w hs;try simp only[pS] at hs)))
   have k1:(n:Int)<=(m:Int):=by omega
   have HLN:=Lib.hid (show m-n=(s.b.drop n).length by rw[List.length_drop,<-HM.out])
   have hmn:m-n<=70368744177664:=by omega
   refine Ch.region' 10 (fun wx=>Blk wx b1 [.pointer (some ⟨g,0,none⟩)] 77/\Blk wx g RL 185) (fun|7=>true|_=>false) (by kernel_rfl) (by decide +kernel) (⟨hs.drew.hold (.blk b1 77 [.pointer (some ⟨g,0,none⟩)]) (by simp),hs.drew.hold (.blk g 185 RL) (by simp)⟩) ?_;replace hs:=hs.drew;generalize w.drew=w at hs ⊢;change Ch.CW _ _ _ _ _ [0,1,2,3,4,5,6,7,8,9] _ _
   iterate 7 ((first|refine Ch.pA ?_|refine Ch.pE (hv:=fun wx hS=>Se.xL (hc:=(by rw[hS.1.cell];rfl))) (h:=?_)|refine Ch.pE (hv:=fun wx hS=>Se.xL (hc:=(by rw[hS.2.cell];exact R4.out))) (h:=?_));(try simp only[pU]))
   refine Ch.cA (f:=66) (args:=#[.slice (if c=n then B else B.map (·.add n)) (m-n) (c-n)]) (Pd.clone_st hs (HB.out [_,_,_,_,_,_]) HLN.out hmn) ?_;clear hs;rintro e w⟨r',B',c',rfl,hs⟩;refine⟨_,rfl,⟨hs.hold (.blk b1 77 [.pointer (some ⟨g,0,none⟩)]) (by simp),hs.hold (.blk g 185 RL) (by simp)⟩,?_⟩;(try simp only[pU])
   iterate 2 (refine Ch.pA ?_;(try simp only[pU]))
   refine Ch.done ?_
   try simp only[List.drop_succ_cons,List.drop_zero]
   go_upto_region 4 with (first|((with_reducible refine Se.iN ?_);(refine Se.So 6 hs rfl rfl rfl (by rw[RLen.out];decide) ?_;clear hs;intro w hs;try simp only[pS] at hs)))
   refine Ch.region' 18 (fun wx=>Blk wx b1 [.pointer (some ⟨g,0,none⟩)] 77/\wx.cell? ⟨g,7,none⟩=some (iv np)) (fun|5=>true|15=>true|_=>false) (by kernel_rfl) (by decide +kernel) (⟨hs.drew.hold (.blk b1 77 [.pointer (some ⟨g,0,none⟩)]) (by simp),(Cell.blk 6 rfl (R7.out _)) _ hs.drew.hold⟩) ?_;replace hs:=hs.drew;generalize w.drew=w at hs ⊢;change Ch.CW _ _ _ _ _ [0,1,2,3,4,5,6,7,8,9,10,11,12,13,14,15,16,17] _ _
   iterate 5 ((first|refine Ch.pA ?_|refine Ch.pE (hv:=fun wx hS=>Se.xL (hc:=(by rw[hS.1.cell];rfl))) (h:=?_));(try simp only[pU]))
   refine Ch.nA (h:=Se.ld hs rfl rfl (Cell.blk 6 rfl (R6.out _)) (by kernel_rfl) ?_);refine⟨⟨hs.hold (.blk b1 77 [.pointer (some ⟨g,0,none⟩)]) (by simp),(Cell.blk 6 rfl (R7.out _)) _ hs.hold⟩,?_⟩;(try simp only[pU])
   iterate 9 ((first|refine Ch.pA ?_|refine Ch.pE (hv:=fun wx hS=>Se.xL (hc:=(by rw[hS.1.cell];rfl))) (h:=?_)|refine Ch.pE (hv:=fun wx hS=>Se.xL (hc:=hS.2)) (h:=?_));(try simp only[pU]))
   refine Ch.nA (h:=Se.so 6 (v:=iv (nb+n)) hs rfl rfl rfl rfl rfl (by kernel_rfl) (by simp only[List.length_set];rw[RLen.out];decide) ?_);clear hs;intro w hs;simp only[List.cons_append,List.nil_append,List.set_cons_zero,List.set_cons_succ] at hs;refine⟨⟨hs.hold (.blk b1 77 [.pointer (some ⟨g,0,none⟩)]) (by simp),(Cell.blk 6 rfl (R7b.out _ _)) _ hs.hold⟩,?_⟩;(try simp only[pU])
   iterate 2 (refine Ch.pA ?_;(try simp only[pU]))
   refine Ch.done ?_
   try simp only[List.drop_succ_cons,List.drop_zero]
   go_upto_region 5 with (first|((with_reducible refine Se.iN ?_);(refine Se.So 6 hs rfl rfl rfl (by simp only[List.length_set];rw[RLen.out];decide) ?_;clear hs;intro w hs;try simp only[pS] at hs)))
   rw[HR2.out] at hs
   (try simp only[Act.put])
   have HCM:=Lib.hid HM.out
   refine(Se.wp_WF (n:=0)).1 (wpIn_region_lit ?_)
   iterate 1 (refine Se.qLI (by intro _ h;cases h) (by rfl) (v:=?_) ?_ ?_;rotate_left;(focus (go_simp;(first|done|with_reducible rfl)));(try simp only[pU]))
   refine Se.toLI (by intro _ h;cases h) (by rfl) (Se.ldw hs rfl rfl (Reads.blk 1 rfl) (by rw[PCL.out];kernel_rfl) (by kernel_rfl) ?_);(try simp only[pU])
   iterate 1 (refine Se.qLI (by intro _ h;cases h) (by rfl) (v:=?_) ?_ ?_;rotate_left;(focus (go_simp;(first|done|with_reducible rfl)));(try simp only[pU]))
   replace hs:=hs.pull 7 rfl;replace hs:=hs.pull 2 rfl;replace hs:=hs.pull 8 rfl;replace hs:=hs.pull 3 rfl;replace hs:=hs.pull 8 rfl;replace hs:=hs.pull 8 rfl;replace hs:=hs.pull 8 rfl;replace hs:=hs.pull 8 rfl;replace hs:=hs.pull 8 rfl;simp only[List.eraseIdx_cons_succ,List.eraseIdx_cons_zero] at hs
   have hs2:=hs.sub (List.Sublist.cons_cons _ (List.Sublist.cons_cons _ (List.Sublist.cons_cons _ (List.Sublist.cons_cons _ (List.Sublist.cons_cons _ (List.Sublist.cons_cons _ (List.Sublist.cons_cons _ (.cons _ (.cons _ (List.Sublist.refl _))))))))))
   have YY:=HY.out #[.agg PC.toArray,iv n] (.own 1 r1 EA p.en.length ec (p.en.map v8)::.own 1 r2 DA p.da.length dc (p.da.map v8)::compM b1 b2 g g3 (eat s n) B' c' r' 0) w ⟨rfl,r1,EA,ec,r2,DA,dc,PC,r',B',c',rfl,HPC,rfl⟩ (by
    simp only[compM,pR,pO,List.cons_append,List.nil_append,eat,List.length_drop,<-HM.out];exact hs2)
   clear hs hs2;refine Se.ylI (by intro _ h;cases h) (by rfl) (l:=l) (args:=#[.agg PC.toArray,iv n]) (by go_simp) (Se.yieldMono YY rfl ?_);rintro e w⟨rfl,T',HJ',hs⟩;refine⟨_,rfl,?_⟩;(try simp only[pU])
   iterate 1 (refine Se.qLI (by intro _ h;cases h) (by rfl) (v:=?_) ?_ ?_;rotate_left;(focus (go_simp;(first|done|with_reducible rfl)));(try simp only[pU]))
   refine wpListIn_nil ?_;simp only[Exit.then]
   go_at_K
   go_wp2_with fail
   all_goals
    refine⟨rfl,_,results_none rfl _ _ _,⟨_,rfl⟩,?_⟩
    first
    | exact⟨#[.agg PC.toArray,iv n],_,⟨rfl,r1,EA,ec,r2,DA,dc,PC,r',B',c',rfl,HPC,rfl⟩,T',HJ',hs⟩
    | exact .inr ⟨#[.agg PC.toArray,iv n],_,T',⟨rfl,r1,EA,ec,r2,DA,dc,PC,r',B',c',rfl,HPC,rfl⟩,HJ',hs⟩
end Sr
end Go.Proofs.YtjnllcnknjlmmaaGreat
