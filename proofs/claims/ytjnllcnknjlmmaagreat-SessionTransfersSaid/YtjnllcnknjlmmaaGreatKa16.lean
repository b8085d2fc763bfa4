/- Layer 41. -/
import Derived.Sort.AssemblyPlain
import Derived.Scope
import Derived.WalkMore
import Derived.Laws.Cover3
import Derived.Test.YtjnllcnknjlmmaaGreatKa13
set_option linter.unusedSimpArgs false
set_option linter.unusedVariables false
set_option maxRecDepth 100000
set_option maxHeartbeats 4000000
namespace Go.Proofs.YtjnllcnknjlmmaaGreat
open Go Go.RowKit
namespace Su
open Se (St At Reads Cell)
open Go.Sort (ltInt swp)
variable {w0 w:World} {X:List Nat} {L:List At}
attribute [local irreducible] Calls
abbrev u16(z:Int):Value:=.int .u16 z
def uL(d:Array Int):List Value:=d.toList.map u16
abbrev rw'(r:Option Nat)(A:Option Addr)(c n:Nat)(d:Array Int):At:=.own 1 r A n c (uL d)
theorem uL_len(d:Array Int):(uL d).length=d.size:=by simp[uL]
theorem uL_at(d:Array Int){i:Nat}(h:i<d.size):(uL d)[i]? = some (.int .u16 d[i]!):=by
 simp[uL,h]
theorem swp_size(d:Array Int)(i j:Nat):(swp d i j).size=d.size:=by simp[swp]
theorem uL_swp(d:Array Int){i j:Nat}:((uL d).set i (.int .u16 d[j]!)).set j (.int .u16 d[i]!)=uL (swp d i j):=by
 unfold uL swp;rw[Array.toList_setIfInBounds,Array.toList_setIfInBounds,List.map_set,List.map_set]
theorem uL_mid(d:Array Int){i j:Nat}(h:j<d.size):((uL d).set i (.int .u16 d[j]!))[j]? = some (.int .u16 d[j]!):=by
 by_cases e:i=j
 ·subst e
  rw[List.getElem?_set_self (by rw[uL_len];exact h)]
 ·rw[List.getElem?_set_ne e]
  exact uL_at d h
theorem nan_any(x:Int)(w:World):Calls Tryz.prog 216 #[.int .u16 x] w fun e w'=>e=.returned (.bool false)/\w'=w:=by
 go_enter Tryz.func216,Tryz.ntmps216
 go_wp2
 go_ret;exact⟨by simp,rfl⟩
theorem less_any(x y:Int)(w:World):Calls Tryz.prog 176 #[.int .u16 x,.int .u16 y] w fun e w'=>e=.returned (.bool (ltInt x y))/\w'=w:=by
 go_enter Tryz.func176,Tryz.ntmps176
 go_wp2_with (first|(go_at_call 216;refine Calls.mono (nan_any _ _) ?_;rintro e w' ⟨rfl,rfl⟩))
 go_ret;exact⟨rfl,rfl⟩
theorem less_st(x y:Int)(hs:St w0 X L w):Calls Tryz.prog 176 #[.int .u16 x,.int .u16 y] w fun e w'=>e=.returned (.bool (ltInt x y))/\St w0 X L w':=by
 refine(less_any x y w).mono ?_;rintro e w' ⟨rfl,rfl⟩;exact⟨rfl,hs⟩
theorem i64n(n:Nat)(h:n<=70368744177664):IntKind.i64.wrap (n:Int)=(n:Int):=IntWalk.i64_in _ (by omega)
theorem wsub(j k:Nat)(h:j=k+1)(hl:j<=70368744177664):IntKind.i64.wrap ((j:Int)-1)=(k:Int):=by rw[IntWalk.i64_in _ (by omega)];omega
theorem wadd(j k:Nat)(h:k=j+1)(hl:k<=70368744177664):IntKind.i64.wrap ((j:Int)+1)=(k:Int):=by rw[IntWalk.i64_in _ (by omega)];omega
theorem lt_dec{a b:Nat}(h:a<b):decide ((b:Int)<=(a:Int))=false/\decide (b<=a)=false/\(a:Int)<(b:Int):=by
 refine⟨?_,?_,?_⟩
 ·simp;omega
 ·simp;omega
 ·omega
theorem order2_st{g o c n gs k:Nat}{d:Array Int}(hs:St w0 X (rw' (some g) (some ⟨g,o,none⟩) c n d::.blk gs 3 [.int .i64 (k:Nat)]::L) w)(hn:n=d.size)(hl:n<=70368744177664)(a b:Nat)(ha:a<n)(hb:b<n)(hk:k<=1000) :
  Calls Tryz.prog 230 #[.slice (some ⟨g,o,none⟩) n c,.int .i64 a,.int .i64 b,.pointer (some ⟨gs,0,none⟩)] w fun e w'=>∃ a' b' k',e=.returned (.tuple #[.int .i64 (a':Nat),.int .i64 (b':Nat)])/\(a'=a/\b'=b\/a'=b/\b'=a)/\k'<=k+1/\St w0 X (rw' (some g) (some ⟨g,o,none⟩) c n d::.blk gs 3 [.int .i64 (k':Nat)]::L) w':=by
 obtain⟨x,hx⟩:∃ x,x=d[a]!:=⟨_,rfl⟩
 obtain⟨y,hy⟩:∃ y,y=d[b]!:=⟨_,rfl⟩
 have CA:=Lib.hid (show(uL d)[a]? = some (.int .u16 x) by rw[hx];exact uL_at d (by omega))
 have CB:=Lib.hid (show(uL d)[b]? = some (.int .u16 y) by rw[hy];exact uL_at d (by omega))
 have SA:=Lib.hid (show ∀ w',St w0 X (rw' (some g) (some ⟨g,o,none⟩) c n d::.blk gs 3 [.int .i64 (k:Nat)]::L) w'->w'.cell? ⟨g,o+a,none⟩=some (.int .u16 x)/\w'.cell? ⟨g,o+b,none⟩=some (.int .u16 y) from fun w' h=>⟨((Reads.own 0 rfl).cell a CA.out) _ h.hold,((Reads.own 0 rfl).cell b CB.out) _ h.hold⟩)
 obtain⟨f1,f2,f3⟩:=lt_dec ha
 obtain⟨f4,f5,f6⟩:=lt_dec hb
 have wk:=wadd k (k+1) rfl (by omega)
 obtain⟨k1,hk1⟩:∃ k1,k1=k+1:=⟨_,rfl⟩
 rw[<-hk1] at wk
 have HK:=Lib.hid hk1
 clear hx hy CA CB hn hl ha hb hk hk1
 cases hlt:ltInt y x with
 | true =>
  have CL:Hid (∀ w,St w0 X (rw' (some g) (some ⟨g,o,none⟩) c n d::.blk gs 3 [.int .i64 (k:Nat)]::L) w->Calls Tryz.prog 176 #[.int .u16 y,.int .u16 x] w fun e w'=>e=.returned (.bool true)/\St w0 X (rw' (some g) (some ⟨g,o,none⟩) c n d::.blk gs 3 [.int .i64 (k:Nat)]::L) w'):=Lib.hid (fun w hs=>by rw[<-hlt];exact less_st y x hs)
  clear hlt
  go_enter Tryz.func230,Tryz.ntmps230
  go_upto_region 1 with (fail)
  refine Ch.region' 9 (fun wx=>wx.cell? ⟨g,o+a,none⟩=some (.int .u16 x)/\wx.cell? ⟨g,o+b,none⟩=some (.int .u16 y)) (fun|8=>true|_=>false) (by kernel_rfl) (by decide +kernel) (SA.out _ hs.drew) ?_;replace hs:=hs.drew;generalize w.drew=w at hs ⊢;change Ch.CW _ _ _ _ _ [0,1,2,3,4,5,6,7,8] _ _
  iterate 8 ((first|refine Ch.pA ?_|refine Ch.pE (hv:=fun wx hS=>Se.xL (hc:=hS.1)) (h:=?_)|refine Ch.pE (hv:=fun wx hS=>Se.xL (hc:=hS.2)) (h:=?_));(try simp only[pU]))
  refine Ch.cA (f:=176) (args:=#[.int .u16 y,.int .u16 x]) (CL.out _ hs) ?_;clear hs;rintro e w⟨rfl,hs⟩;refine⟨_,rfl,SA.out _ hs,?_⟩;(try simp only[pU]);refine Ch.done ?_
  try simp only[List.drop_succ_cons,List.drop_zero]
  go_wp2_with (first|((with_reducible refine Se.iL 21 ?_);(refine Se.Ld hs rfl rfl (Cell.blk 1 rfl rfl) ?_))|((with_reducible refine Se.isL (o:=⟨none,Op.store 3 _ _,_,_,_,_⟩) ?_);(refine Se.So 1 hs rfl rfl rfl (by simp) ?_;clear hs;intro w hs;try simp only[pS] at hs)))
  go_ret2;exact⟨b,a,k1,rfl,.inr ⟨rfl,rfl⟩,by rw[HK.out];exact Nat.le_refl _,hs⟩
 | false =>
  have CL:Hid (∀ w,St w0 X (rw' (some g) (some ⟨g,o,none⟩) c n d::.blk gs 3 [.int .i64 (k:Nat)]::L) w->Calls Tryz.prog 176 #[.int .u16 y,.int .u16 x] w fun e w'=>e=.returned (.bool false)/\St w0 X (rw' (some g) (some ⟨g,o,none⟩) c n d::.blk gs 3 [.int .i64 (k:Nat)]::L) w'):=Lib.hid (fun w hs=>by rw[<-hlt];exact less_st y x hs)
  clear hlt
  go_enter Tryz.func230,Tryz.ntmps230
  go_upto_region 1 with (fail)
  refine Ch.region' 9 (fun wx=>wx.cell? ⟨g,o+a,none⟩=some (.int .u16 x)/\wx.cell? ⟨g,o+b,none⟩=some (.int .u16 y)) (fun|8=>true|_=>false) (by kernel_rfl) (by decide +kernel) (SA.out _ hs.drew) ?_;replace hs:=hs.drew;generalize w.drew=w at hs ⊢;change Ch.CW _ _ _ _ _ [0,1,2,3,4,5,6,7,8] _ _
  iterate 8 ((first|refine Ch.pA ?_|refine Ch.pE (hv:=fun wx hS=>Se.xL (hc:=hS.1)) (h:=?_)|refine Ch.pE (hv:=fun wx hS=>Se.xL (hc:=hS.2)) (h:=?_));(try simp only[pU]))
  refine Ch.cA (f:=176) (args:=#[.int .u16 y,.int .u16 x]) (CL.out _ hs) ?_;clear hs;rintro e w⟨rfl,hs⟩;refine⟨_,rfl,SA.out _ hs,?_⟩;(try simp only[pU]);refine Ch.done ?_
  try simp only[List.drop_succ_cons,List.drop_zero]
  go_wp2_with fail
  go_ret2;exact⟨a,b,k,rfl,.inl ⟨rfl,rfl⟩,by omega,hs⟩
theorem ins_go(a j k:Nat)(d:Array Int)(hj:j=k+1)(h:a<j)(hl:ltInt d[j]! d[k]! = true):Go.Sort.insInner ltInt a j d=Go.Sort.insInner ltInt a k (swp d j k):=by
 subst hj;rw[Go.Sort.insInner,if_pos (by simp[h,hl])]
theorem ins_no(a j k:Nat)(d:Array Int)(hj:j=k+1)(hl:ltInt d[j]! d[k]! = false):Go.Sort.insInner ltInt a j d=d:=by
 subst hj;rw[Go.Sort.insInner,if_neg (by simp[hl])]
theorem ins_end(a j:Nat)(d:Array Int)(h:j<=a):Go.Sort.insInner ltInt a j d=d:=by
 cases j with
 | zero=>rfl
 | succ k=>rw[Go.Sort.insInner,if_neg (by simp;omega)]
theorem out_go(a b i:Nat)(d:Array Int)(h:i<b):Go.Sort.insOuter ltInt a b i d=Go.Sort.insOuter ltInt a b (i+1) (Go.Sort.insInner ltInt a i d):=by
 rw[Go.Sort.insOuter,if_pos h]
theorem out_end(a b i:Nat)(d:Array Int)(h:¬ i<b):Go.Sort.insOuter ltInt a b i d=d:=by
 rw[Go.Sort.insOuter,if_neg h]
theorem insertion_st{r:Option Nat}{A:Option Addr}{c n:Nat}{d:Array Int}(hs:St w0 X (rw' r A c n d::L) w)(hn:n=d.size)(hl:n<=70368744177663)(a b:Nat)(ha:a<=70368744177663)(hb:b<=n) :
  Calls Tryz.prog 170 #[.slice A n c,.int .i64 a,.int .i64 b] w fun e w'=>e=.returned (.tuple #[])/\St w0 X (rw' r A c n (Go.Sort.insertionSort ltInt d a b)::L) w':=by
 obtain⟨E,hE⟩:∃ E,E=Go.Sort.insertionSort ltInt d a b:=⟨_,rfl⟩
 have HE:=Lib.hid (show Go.Sort.insOuter ltInt a b (a+1) d=E from hE.symm)
 have HN:=Lib.hid hn
 rw[<-hE];clear hE hn
 ·have w1:=wadd a (a+1) rfl (by omega)
  obtain⟨a1,ha1⟩:∃ a1,a1=a+1:=⟨_,rfl⟩
  rw[<-ha1] at HE w1
  have HA1:=Lib.hid ha1
  clear ha1
  go_enter Tryz.func170,Tryz.ntmps170
  go_wp2_with fail
  go_loopg [6] (b-a1) (fun gh s6 wr=>∃ (i:Nat) (d':Array Int),gh=b-i/\s6=.int .i64 (i:Nat)/\Hid (a1<=i)/\Hid (Go.Sort.insOuter ltInt a b i d'=E)/\Hid (n=d'.size)/\St w0 X (rw' r A c n d'::L) wr)
  case atStart=>exact⟨a1,d,rfl,rfl,Lib.hid (Nat.le_refl _),HE,HN,hs⟩
  case round =>
   clear hs HE HN
   rename World=>w
   obtain⟨i,d',rfl,rfl,HAI,HE,HN,hs⟩:=hrel
   by_cases hib:i<b
   ·have hib':(i:Int)<(b:Int):=by omega
    have HE2:=Lib.hid (show Go.Sort.insOuter ltInt a b (i+1) (Go.Sort.insInner ltInt a i d')=E by rw[<-out_go a b i d' hib];exact HE.out)
    clear HE
    obtain⟨F,hF⟩:∃ F,F=Go.Sort.insInner ltInt a i d':=⟨_,rfl⟩
    rw[<-hF] at HE2
    have HF:=Lib.hid hF.symm
    clear hF
    go_wp2_with fail
    go_loopg [7] (0+i) (fun gh s7 wr=>∃ (j:Nat) (d':Array Int),gh=0+j/\j<=i/\s7=.int .i64 (j:Nat)/\Hid (Go.Sort.insInner ltInt a j d'=F)/\Hid (n=d'.size)/\St w0 X (rw' r A c n d'::L) wr)
    case atStart=>exact⟨i,d',rfl,by omega,rfl,HF,HN,hs⟩
    case round =>
     clear hs HF HN d'
     rename World=>w
     obtain⟨j,d',rfl,hj,rfl,HF,HN,hs⟩:=hrel
     by_cases haj:a<j
     ·have haj':(a:Int)<(j:Int):=by omega
      obtain⟨k,hk⟩:∃ k,j=k+1:=⟨j-1,by omega⟩
      obtain⟨g,o,rfl,rfl⟩:=hs.own_at 0 rfl (by omega)
      have hjn:j<n:=by omega
      have hkn:k<n:=by omega
      obtain⟨f1,f2,f3⟩:=lt_dec hjn
      obtain⟨f4,f5,f6⟩:=lt_dec hkn
      have w2:=wsub j k hk (by omega)
      obtain⟨x,hx⟩:∃ x,x=d'[j]!:=⟨_,rfl⟩
      obtain⟨y,hy⟩:∃ y,y=d'[k]!:=⟨_,rfl⟩
      have CX:=Lib.hid (show(uL d')[j]? = some (.int .u16 x) by rw[hx];exact uL_at d' (by rw[<-HN.out];exact hjn))
      have CY:=Lib.hid (show(uL d')[k]? = some (.int .u16 y) by rw[hy];exact uL_at d' (by rw[<-HN.out];exact hkn))
      have CM:=Lib.hid (show((uL d').set j (.int .u16 y))[k]? = some (.int .u16 y) by rw[hy];exact uL_mid d' (by rw[<-HN.out];exact hkn))
      have LL:=Lib.hid (show(uL d').length=n by rw[uL_len,HN.out])
      have ES:=Lib.hid (show((uL d').set j (.int .u16 y)).set k (.int .u16 x)=uL (swp d' j k) by rw[hx,hy];exact uL_swp d')
      have HN2:=Lib.hid (show n=(swp d' j k).size by rw[swp_size];exact HN.out)
      have SA:=Lib.hid (show ∀ w',St w0 X (rw' (some g) (some ⟨g,o,none⟩) c n d'::L) w'->w'.cell? ⟨g,o+j,none⟩=some (.int .u16 x)/\w'.cell? ⟨g,o+k,none⟩=some (.int .u16 y) from fun w' h=>⟨((Reads.own 0 rfl).cell j CX.out) _ h.hold,((Reads.own 0 rfl).cell k CY.out) _ h.hold⟩)
      cases hlt:ltInt x y with
      | true =>
       have HF2:=Lib.hid (show Go.Sort.insInner ltInt a k (swp d' j k)=F by rw[<-ins_go a j k d' hk haj (by rw[<-hx,<-hy];exact hlt)];exact HF.out)
       have CL:Hid (∀ w,St w0 X (rw' (some g) (some ⟨g,o,none⟩) c n d'::L) w->Calls Tryz.prog 176 #[.int .u16 x,.int .u16 y] w fun e w'=>e=.returned (.bool true)/\St w0 X (rw' (some g) (some ⟨g,o,none⟩) c n d'::L) w'):=Lib.hid (fun w hs=>by rw[<-hlt];exact less_st x y hs)
       have HK:=Lib.hid hk
       clear hlt hx hy HF HN hk
       go_upto_region 4 with (fail)
       refine Ch.region' 15 (fun wx=>wx.cell? ⟨g,o+j,none⟩=some (.int .u16 x)/\wx.cell? ⟨g,o+k,none⟩=some (.int .u16 y)) (fun|13=>true|_=>false) (by kernel_rfl) (by decide +kernel) (SA.out _ hs.drew) ?_;replace hs:=hs.drew;generalize w.drew=w at hs ⊢;change Ch.CW _ _ _ _ _ [0,1,2,3,4,5,6,7,8,9,10,11,12,13,14] _ _
       iterate 13 ((first|refine Ch.pA ?_|refine Ch.pE (hv:=fun wx hS=>Se.xL (hc:=hS.1)) (h:=?_)|refine Ch.pE (hv:=fun wx hS=>Se.xL (hc:=hS.2)) (h:=?_));(try simp only[pU]))
       refine Ch.cA (f:=176) (args:=#[.int .u16 x,.int .u16 y]) (CL.out _ hs) ?_;clear hs;rintro e w⟨rfl,hs⟩;refine⟨_,rfl,SA.out _ hs,?_⟩;(try simp only[pU])
       iterate 1 (refine Ch.pA ?_;(try simp only[pU]))
       refine Ch.done ?_
       try simp only[List.drop_succ_cons,List.drop_zero]
       go_upto_region 6 with (fail)
       refine Ch.region' 17 (fun wx=>wx.cell? ⟨g,o+k,none⟩=some (.int .u16 y)) (fun|13=>true|15=>true|_=>false) (by kernel_rfl) (by decide +kernel) ((SA.out _ hs.drew).2) ?_;replace hs:=hs.drew;generalize w.drew=w at hs ⊢;change Ch.CW _ _ _ _ _ [0,1,2,3,4,5,6,7,8,9,10,11,12,13,14,15,16] _ _
       iterate 13 ((first|refine Ch.pA ?_|refine Ch.pE (hv:=fun wx hS=>Se.xL (hc:=hS)) (h:=?_));(try simp only[pU]))
       refine Ch.nA (h:=Se.ld hs rfl rfl ((Reads.own 0 rfl).cell j CX.out) (by kernel_rfl) ?_);refine⟨(SA.out _ hs).2,?_⟩;(try simp only[pU])
       iterate 1 (refine Ch.pA ?_;(try simp only[pU]))
       refine Ch.nA (h:=Se.soo 0 (v:=.int .u16 y) hs rfl rfl rfl rfl rfl (by kernel_rfl) (by rw[LL.out];exact hjn) ?_);clear hs;intro w hs;simp only[List.set_cons_zero] at hs;refine⟨((Reads.own 0 rfl).cell k CM.out) _ hs.hold,?_⟩;(try simp only[pU])
       iterate 1 (refine Ch.pA ?_;(try simp only[pU]))
       refine Ch.done ?_
       try simp only[List.drop_succ_cons,List.drop_zero]
       go_wp2_with (first|((with_reducible refine Se.iN ?_);(refine Se.Soo 0 hs rfl rfl rfl (by rw[List.length_set,LL.out];exact hkn) ?_;clear hs;intro w hs;try simp only[pS] at hs)))
       rw[ES.out] at hs
       go_roundg (0+k)
       case measure=>have:=HK.out;omega
       case rel=>exact⟨k,swp d' j k,rfl,by have:=HK.out;omega,by go_num,HF2,HN2,hs⟩
      | false =>
       have HF2:d'=F:=by rw[<-HF.out];exact(ins_no a j k d' hk (by rw[<-hx,<-hy];exact hlt)).symm
       have CL:Hid (∀ w,St w0 X (rw' (some g) (some ⟨g,o,none⟩) c n d'::L) w->Calls Tryz.prog 176 #[.int .u16 x,.int .u16 y] w fun e w'=>e=.returned (.bool false)/\St w0 X (rw' (some g) (some ⟨g,o,none⟩) c n d'::L) w'):=Lib.hid (fun w hs=>by rw[<-hlt];exact less_st x y hs)
       have HF2:=Lib.hid HF2
       have w3:=wadd i (i+1) rfl (by omega)
       clear hlt hx hy HF hk
       go_upto_region 4 with (fail)
       refine Ch.region' 15 (fun wx=>wx.cell? ⟨g,o+j,none⟩=some (.int .u16 x)/\wx.cell? ⟨g,o+k,none⟩=some (.int .u16 y)) (fun|13=>true|_=>false) (by kernel_rfl) (by decide +kernel) (SA.out _ hs.drew) ?_;replace hs:=hs.drew;generalize w.drew=w at hs ⊢;change Ch.CW _ _ _ _ _ [0,1,2,3,4,5,6,7,8,9,10,11,12,13,14] _ _
       iterate 13 ((first|refine Ch.pA ?_|refine Ch.pE (hv:=fun wx hS=>Se.xL (hc:=hS.1)) (h:=?_)|refine Ch.pE (hv:=fun wx hS=>Se.xL (hc:=hS.2)) (h:=?_));(try simp only[pU]))
       refine Ch.cA (f:=176) (args:=#[.int .u16 x,.int .u16 y]) (CL.out _ hs) ?_;clear hs;rintro e w⟨rfl,hs⟩;refine⟨_,rfl,SA.out _ hs,?_⟩;(try simp only[pU])
       iterate 1 (refine Ch.pA ?_;(try simp only[pU]))
       refine Ch.done ?_
       try simp only[List.drop_succ_cons,List.drop_zero]
       go_wp2_with fail
       go_roundg (b-(i+1))
       case measure=>omega
       case rel=>exact⟨i+1,d',rfl,by go_num,Lib.hid (by have:=HAI.out;omega),by rw[HF2.out];exact HE2,HN,hs⟩
     ·have haj':¬ (a:Int)<(j:Int):=by omega
      have HF2:=Lib.hid (show d'=F by rw[<-HF.out];exact(ins_end a j d' (by omega)).symm)
      have w3:=wadd i (i+1) rfl (by omega)
      clear HF
      go_upto_region 4 with (fail)
      refine Ch.region' 15 (fun wx=>True) (fun|13=>true|_=>false) (by kernel_rfl) (by decide +kernel) (trivial) ?_;replace hs:=hs.drew;generalize w.drew=w at hs ⊢;change Ch.CW _ _ _ _ _ [0,1,2,3,4,5,6,7,8,9,10,11,12,13,14] _ _
      iterate 4 (refine Ch.pA ?_;(try simp only[pU]))
      iterate 10 (refine Ch.sK ?_;(try simp only[pU]))
      iterate 1 (refine Ch.pA ?_;(try simp only[pU]))
      refine Ch.done ?_
      try simp only[List.drop_succ_cons,List.drop_zero]
      go_wp2_with fail
      go_roundg (b-(i+1))
      case measure=>omega
      case rel=>exact⟨i+1,d',rfl,by go_num,Lib.hid (by have:=HAI.out;omega),by rw[HF2.out];exact HE2,HN,hs⟩
   ·have hib':¬ (i:Int)<(b:Int):=by omega
    have HE2:=HE.out
    rw[out_end a b i d' hib] at HE2
    have HE3:=Lib.hid HE2
    clear HE HE2
    go_wp2_with fail
    refine bodyPost_end (results_none rfl _ _ _) rfl ?_;exact⟨rfl,by rw[HE3.out] at hs;exact hs⟩
end Su
end Go.Proofs.YtjnllcnknjlmmaaGreat
namespace Go.Proofs.YtjnllcnknjlmmaaGreat
open Go Go.RowKit
namespace Su
open Se (St At)
open Go.Sort (ltInt)
variable {w0 w:World} {X:List Nat} {L:List At}
attribute [local irreducible] Calls
def us(zs:List Int):List Value:=zs.map u16
def srt(zs:List Int):List Int:=zs.mergeSort (fun x y=>decide (x<=y))
theorem us_arr(zs:List Int):us zs=uL zs.toArray:=by simp[us,uL]
theorem ins_srt(zs:List Int):uL (Go.Sort.insertionSort ltInt zs.toArray 0 zs.length)=us (srt zs):=by
 have h:=Go.Sort.insertionSort_holds (lt:=ltInt) Go.Sort.swo_ltInt zs.toArray 0 zs.length (Nat.zero_le _) (by simp)
 have h2:=Go.Sort.sorted_unique_holds (lt:=ltInt) Go.Sort.swo_ltInt (fun x y h1 h2=>by simp only[Go.Sort.ltInt,decide_eq_false_iff_not] at h1 h2;omega) zs.toArray (Go.Sort.insertionSort ltInt zs.toArray 0 zs.length) (by simpa using h.1) (by simpa using h.2)
 unfold uL us srt;rw[h2]
 congr 2
 funext x y
 simp only[Go.Sort.ltInt,<-decide_not];exact decide_eq_decide.2 (by omega)
theorem wr8(x:UInt8):wrap64 (wrap64 ((x.toNat:Nat):Int))=((x.toNat:Nat):Int):=by
 have:=x.toNat_lt
 unfold wrap64;omega
theorem l8(x:UInt8)(v:Ending)(h:v=.returned (.int .i64 (wrap64 (wrap64 ((x.toNat:Nat):Int))))):∃ k:Nat,k<=255/\v=.returned (.int .i64 (k:Int)):=⟨x.toNat,Nat.le_of_lt_succ (UInt8.toNat_lt _),by rw[h,wr8]⟩
theorem len64_any(n:Nat)(hn:n<256)(w:World):Calls Tryz.prog 180 #[.int .u64 (n:Int)] w fun e w'=>(∃ k:Nat,k<=255/\e=.returned (.int .i64 (k:Int)))/\w'=w:=by
 have a1:decide ((4294967296:Int)<=(n:Int))=false:=by simp;omega
 have a2:decide ((65536:Int)<=(n:Int))=false:=by simp;omega
 have a3:decide ((256:Int)<=(n:Int))=false:=by simp;omega
 have a4:IntKind.u8.wrap (n:Int)=(n:Int):=by simp[IntKind.wrap,IntKind.bits,IntKind.signed];omega
 have hn':(n:Int)<256:=by omega
 go_enter Tryz.func180,Tryz.ntmps180
 go_wp2
 go_ret;exact⟨l8 _ _ rfl,rfl⟩
theorem len_any(n:Nat)(hn:n<256)(w:World):Calls Tryz.prog 146 #[.int .u64 (n:Int)] w fun e w'=>(∃ k:Nat,k<=255/\e=.returned (.int .i64 (k:Int)))/\w'=w:=by
 have C:=Lib.hid (len64_any n hn)
 clear hn
 go_enter Tryz.func146,Tryz.ntmps146
 go_wp2_with (first|(go_at_call 180;refine Calls.mono (C.out _) ?_;rintro e w' ⟨⟨k,hk,rfl⟩,rfl⟩))
 go_ret;exact⟨⟨k,hk,rfl⟩,rfl⟩
theorem pdqS_st{r:Option Nat}{A:Option Addr}{c n:Nat}{d:Array Int}(hs:St w0 X (rw' r A c n d::L) w)(hn:n=d.size)(hl:n<=12)(k:Nat) :
  Calls Tryz.prog 145 #[.slice A n c,.int .i64 0,.int .i64 (n:Nat),.int .i64 (k:Nat)] w fun e w'=>e=.returned (.tuple #[])/\St w0 X (rw' r A c n (Go.Sort.insertionSort ltInt d 0 n)::L) w':=by
 have CI:=Lib.hid (fun w (hs:St w0 X (rw' r A c n d::L) w)=>insertion_st hs hn (by omega) 0 n (by omega) (Nat.le_refl _))
 have w1:=i64n n (by omega)
 have h1:(n:Int)<=12:=by omega
 clear hn
 go_enter Tryz.func145,Tryz.ntmps145
 go_wp2_with fail
 go_loopg [1,2,3,8,9] 0 (fun gh s1 s2 s3 s8 s9 wr=>gh=0/\s1=.int .i64 0/\s2=.int .i64 (n:Nat)/\s3=.int .i64 (k:Nat)/\St w0 X (rw' r A c n d::L) wr)
 case atStart=>exact⟨rfl,rfl,rfl,rfl,hs⟩
 case round =>
 clear hs
 rename World=>w
 obtain⟨rfl,rfl,rfl,rfl,hs⟩:=hrel
 go_wp2_with (first|(go_at_call 170;refine Calls.mono (CI.out _ hs) ?_;clear hs;rintro e w ⟨rfl,hs⟩))
 first|refine bodyPost_ret (results_none rfl _ _ _) rfl ?_|refine bodyPost_end (results_none rfl _ _ _) rfl ?_
 exact⟨rfl,hs⟩
theorem sort_st{r:Option Nat}{A:Option Addr}{c n:Nat}(zs:List Int)(hs:St w0 X (.own 1 r A n c (us zs)::L) w)(hn:n=zs.length)(hl:n<=12) :
  Calls Tryz.prog 106 #[.slice A n c] w fun e w'=>e=.returned (.tuple #[])/\St w0 X (.own 1 r A n c (us (srt zs))::L) w':=by
 have CP:=Lib.hid (show ∀ (k:Nat) w,St w0 X (.own 1 r A n c (us zs)::L) w->Calls Tryz.prog 145 #[.slice A n c,.int .i64 0,.int .i64 (n:Nat),.int .i64 (k:Nat)] w fun e w'=>e=.returned (.tuple #[])/\St w0 X (.own 1 r A n c (us (srt zs))::L) w' from fun k w hs=>by
  rw[us_arr] at hs;refine(pdqS_st hs (by simpa using hn) hl k).mono ?_;rintro e w' ⟨h1,h2⟩;refine⟨h1,?_⟩;rw[hn] at h2 ⊢;rw[<-ins_srt];exact h2)
 have CL:=Lib.hid (len_any n (by omega))
 have w1:IntKind.u64.wrap (n:Int)=(n:Int):=by simp[IntKind.wrap,IntKind.bits,IntKind.signed];omega
 clear hn
 go_enter Tryz.func106,Tryz.ntmps106
 go_wp2_with (first|(go_at_call 146;refine Calls.mono (CL.out _) ?_;rintro e w' ⟨⟨k,hk,rfl⟩,rfl⟩)|(go_at_call 145;refine Calls.mono (CP.out k _ hs) ?_;clear hs;rintro e w ⟨rfl,hs⟩))
 refine bodyPost_end (results_none rfl _ _ _) rfl ?_;exact⟨rfl,hs⟩
end Su
end Go.Proofs.YtjnllcnknjlmmaaGreat
namespace Go.Proofs.YtjnllcnknjlmmaaGreat
open Go Go.RowKit
namespace Sn
open Se (St At Reads Cell mp mit SeqG)
open Su (us srt u16)
open Li (Blk)
open Bv (n16)
variable {w0 w:World} {X:List Nat} {L:List At}
attribute [local irreducible] Calls
def KSeq(gf:Nat)(lb:Array Value)(M0 Me:List At)(ks:List Int):Prop :=
 SeqG Tryz.prog gf lb (fun z:Int=>#[.int .u16 z]) (fun(k:List Int × List At) z (k':List Int × List At)=>k'.1=k.1++[z]/\k'.1.length<=ks.length) (fun k=>k.1.Perm ks) (fun k=>k.2) (fun _=>Me) ([],M0)
theorem u16_i3:(Tryz.prog.info? 40).map (fun i=>(i.zero,i.size,i.bytes))=some (some (.int .u16 0),1,2):=by kernel_rfl
theorem u16_i:(Tryz.prog.info? 40).map (fun i=>(i.zero,i.size))=some (some (.int .u16 0),1):=by kernel_rfl
theorem us_app(a b:List Int):us (a++b)=us a++us b:=List.map_append
theorem perm_step{l r:Se.Ps}{ys:List Int}{p:Int × Value}(hn:(l.map (·.1)).Nodup)(h:(ys++r.map (·.1)).Perm (l.map (·.1)))(hp:p∈r):((ys++[p.1])++(Se.delP r p.1).map (·.1)).Perm (l.map (·.1)):=by
 have hr:(r.map (·.1)).Nodup:=(List.nodup_append.1 (h.nodup_iff.2 hn)).2.1
 refine List.Perm.trans ?_ h;rw[List.append_assoc];refine List.Perm.append_left _ ?_
 obtain⟨a,b,rfl⟩:=List.append_of_mem hp
 have e:Se.delP (a++p::b) p.1=a++b:=by
  unfold Se.delP;rw[List.filter_append,List.filter_cons_of_neg (by simp)];rw[List.map_append,List.map_cons] at hr
  have h1:=List.nodup_append.1 hr
  have h2:=List.nodup_cons.1 h1.2.1
  congr 1
  ·refine List.filter_eq_self.2 fun q hq=>?_
   have:=h1.2.2 _ (List.mem_map.2 ⟨q,hq,rfl⟩) p.1 (List.mem_cons_self)
   simpa using this
  ·refine List.filter_eq_self.2 fun q hq=>?_
   have:q.1≠p.1:=fun e=>h2.1 (e ▸ List.mem_map.2 ⟨q,hq,rfl⟩)
   simpa using this
 rw[e];simp only[List.map_append,List.map_cons,List.singleton_append];exact(List.perm_middle).symm
theorem delP_lt{r:Se.Ps}{p:Int × Value}(h:p∈r):(Se.delP r p.1).length<r.length:=by
 unfold Se.delP;exact List.length_filter_lt_length_iff_exists.2 ⟨p,h,by simp⟩
theorem keysT_seq{gb gm:Nat}{l:Se.Ps}:KSeq 159 #[.pointer (some ⟨gb,0,none⟩)] [.blk gb 109 [.map (some gm)],mp gm .u16 l] [.blk gb 109 [.map (some gm)],mp gm .u16 l] (l.map (·.1)):=by
 intro y w0 X J Jx hY T w h0 hs;simp only[List.cons_append,List.nil_append] at hs
 have HND:=Lib.hid (show(l.map (·.1)).Nodup from Se.MP.nodup (hs.hold (mp gm .u16 l) (by simp)))
 have HY:=Lib.hid hY
 have H0:=Lib.hid h0
 rw[show(#[Value.func (.yield y) #[] #[]]++#[Value.pointer (some ⟨gb,0,none⟩)]:Array Value)=#[.func (.yield y) #[] #[],.pointer (some ⟨gb,0,none⟩)] from rfl];clear hY h0
 go_enter Tryz.func159,Tryz.ntmps159
 go_wp2_with (first|((with_reducible refine Se.iL 4 ?_);(refine Se.Ld hs rfl rfl (Cell.blk 0 rfl rfl) ?_))|((with_reducible refine Se.iL 5 ?_);(refine Se.toL rfl (Se.mrg (o:=⟨some 5,_,_,_,_,_⟩) 1 hs rfl rfl rfl Tryz.underlying109 ?_);clear hs;rintro w gi hs;try simp only[pS] at hs)))
 (try simp only[pU])
 go_loopg [3] (0+l.length) (fun gh s3 wr=>∃ (r:Se.Ps) (cur:Option (Int × Value)) (k:List Int × List At) (T':List At),gh=0+r.length/\Hid (J k T')/\Hid ((k.1++r.map (·.1)).Perm (l.map (·.1)))/\St w0 X (.blk gb 109 [.map (some gm)]::mit gi gm .u16 l r cur::T') wr)
 case atStart=>exact⟨l,none,_,T,rfl,H0,Lib.hid (List.Perm.refl _),hs⟩
 case round =>
  clear hs H0 T
  rename World=>w
  obtain⟨r,cur,k,T,rfl,HJ,HP,hs⟩:=hrel
  by_cases hz:r=[]
  ·subst hz
   go_wp2_with (first|((with_reducible refine Se.iL 6 ?_);(refine Se.toL rfl (Se.mnx 1 hs rfl rfl rfl (fun _=>?_) (fun p hp=>by cases hp)))))
   refine⟨rfl,_,results_none rfl _ _ _,⟨_,rfl⟩,.inl ⟨k.1,by simpa using HP.out,k.2,T,HJ.out,?_⟩⟩;exact(Se.mit_mp (hs.perm (List.Perm.swap _ _ _))).perm (List.Perm.swap _ _ _)
  ·have HNE:=Lib.hid hz
   clear hz
   go_upto_region 3 with (first|((with_reducible refine Se.iL 6 ?_);(refine Se.toL rfl (Se.mnx 1 hs rfl rfl rfl (fun hz=>absurd hz HNE.out) ?_));clear hs;intro p hp hpl w hs;(try simp only[pS] at hs);have HP3:=Lib.hid hp;clear hp hpl)|((with_reducible refine Se.iL 8 ?_);(refine Se.toL rfl (Se.men hs rfl rfl (List.mem_cons_of_mem _ List.mem_cons_self) ?_))))
   have HS:=Lib.hid (perm_step HND.out HP.out HP3.out)
   have HL:=Lib.hid (delP_lt HP3.out)
   obtain⟨z,hz⟩:∃ z,z=p.1:=⟨_,rfl⟩
   rw[<-hz] at hs HS HL ⊢
   have YY:=Lib.hid (show ∀ W,St w0 X ([.blk gb 109 [.map (some gm)],mit gi gm .u16 l (Se.delP r z) (some p)]++T) W->_ from fun W h=>HY.out k z (k.1++[z],[.blk gb 109 [.map (some gm)],mit gi gm .u16 l (Se.delP r z) (some p)]) ⟨rfl,by have h5:=HS.out.length_eq;simp only[List.length_append,List.length_map,List.length_cons,List.length_nil] at h5 ⊢;omega⟩ T W HJ.out h)
   clear hz;(try simp only[pU]);refine(Se.wp_WF (n:=0)).1 (wpIn_region_lit ?_)
   iterate 2 (refine Se.qLI (by intro _ h;cases h) (by rfl) (v:=?_) ?_ ?_;rotate_left;(focus (go_simp;(first|done|with_reducible rfl)));(try simp only[pU]))
   refine Se.ylI (by intro _ h;cases h) (by rfl) (l:=y) (args:=#[.int .u16 z]) (by go_simp) (Se.yieldMono (YY.out w hs) rfl ?_);clear hs;rintro e w (⟨rfl,T',HJ',hs⟩|⟨rfl,T',HJ',hs⟩)
   ·have HJ':=Lib.hid HJ'
    refine⟨_,rfl,?_⟩;(try simp only[pU])
    iterate 1 (refine Se.qLI (by intro _ h;cases h) (by rfl) (v:=?_) ?_ ?_;rotate_left;(focus (go_simp;(first|done|with_reducible rfl)));(try simp only[pU]))
    refine wpListIn_nil ?_;simp only[Exit.then]
    go_at_K
    go_wp2_with fail
    go_roundg (0+(Se.delP r z).length)
    case measure=>have:=HL.out;omega
    case rel=>exact⟨Se.delP r z,_,_,T',rfl,HJ',HS,hs⟩
   ·refine⟨_,rfl,?_⟩
    (try simp only[pU])
    iterate 1 (refine Se.qLI (by intro _ h;cases h) (by rfl) (v:=?_) ?_ ?_;rotate_left;(focus (go_simp;(first|done|with_reducible rfl)));(try simp only[pU]))
    refine wpListIn_nil ?_;simp only[Exit.then]
    go_at_K
    go_wp2_with fail
    exact⟨rfl,_,results_none rfl _ _ _,⟨_,rfl⟩,.inr ⟨_,_,T',HJ',hs⟩⟩
theorem keysT_st{gm:Nat}(hs:St w0 X L w):Calls Tryz.prog 125 #[.map (some gm)] w fun e w'=>∃ gb,e=.returned (.func (.func 159) #[] #[.pointer (some ⟨gb,0,none⟩)])/\St w0 X (.blk gb 109 [.map (some gm)]::L) w':=by
 go_enter Tryz.func125,Tryz.ntmps125
 go_wp2_with (first|((with_reducible refine Se.iL 1 ?_);(refine Se.toL rfl (Se.bx hs rfl rfl (l:=[.map (some gm)]) rfl ?_);clear hs;rintro w g1-hs))|((first|with_reducible refine Se.ab hs ?_|with_reducible refine Se.abc hs ?_);clear hs;(first|(generalize w.heap.size=g1;intro w hs))))
 go_ret;exact⟨g1,rfl,hs⟩
theorem keysR_seq{gb gm:Nat}{l:Se.Ps}:KSeq 160 #[.pointer (some ⟨gb,0,none⟩)] [.blk gb 110 [.map (some gm)],mp gm .u16 l] [.blk gb 110 [.map (some gm)],mp gm .u16 l] (l.map (·.1)):=by
 intro y w0 X J Jx hY T w h0 hs;simp only[List.cons_append,List.nil_append] at hs
 have HND:=Lib.hid (show(l.map (·.1)).Nodup from Se.MP.nodup (hs.hold (mp gm .u16 l) (by simp)))
 have HY:=Lib.hid hY
 have H0:=Lib.hid h0
 rw[show(#[Value.func (.yield y) #[] #[]]++#[Value.pointer (some ⟨gb,0,none⟩)]:Array Value)=#[.func (.yield y) #[] #[],.pointer (some ⟨gb,0,none⟩)] from rfl];clear hY h0
 go_enter Tryz.func160,Tryz.ntmps160
 go_wp2_with (first|((with_reducible refine Se.iL 4 ?_);(refine Se.Ld hs rfl rfl (Cell.blk 0 rfl rfl) ?_))|((with_reducible refine Se.iL 5 ?_);(refine Se.toL rfl (Se.mrg (o:=⟨some 5,_,_,_,_,_⟩) 1 hs rfl rfl rfl Tryz.underlying110 ?_);clear hs;rintro w gi hs;try simp only[pS] at hs)))
 (try simp only[pU])
 go_loopg [3] (0+l.length) (fun gh s3 wr=>∃ (r:Se.Ps) (cur:Option (Int × Value)) (k:List Int × List At) (T':List At),gh=0+r.length/\Hid (J k T')/\Hid ((k.1++r.map (·.1)).Perm (l.map (·.1)))/\St w0 X (.blk gb 110 [.map (some gm)]::mit gi gm .u16 l r cur::T') wr)
 case atStart=>exact⟨l,none,_,T,rfl,H0,Lib.hid (List.Perm.refl _),hs⟩
 case round =>
  clear hs H0 T
  rename World=>w
  obtain⟨r,cur,k,T,rfl,HJ,HP,hs⟩:=hrel
  by_cases hz:r=[]
  ·subst hz
   go_wp2_with (first|((with_reducible refine Se.iL 6 ?_);(refine Se.toL rfl (Se.mnx 1 hs rfl rfl rfl (fun _=>?_) (fun p hp=>by cases hp)))))
   refine⟨rfl,_,results_none rfl _ _ _,⟨_,rfl⟩,.inl ⟨k.1,by simpa using HP.out,k.2,T,HJ.out,?_⟩⟩;exact(Se.mit_mp (hs.perm (List.Perm.swap _ _ _))).perm (List.Perm.swap _ _ _)
  ·have HNE:=Lib.hid hz
   clear hz
   go_upto_region 3 with (first|((with_reducible refine Se.iL 6 ?_);(refine Se.toL rfl (Se.mnx 1 hs rfl rfl rfl (fun hz=>absurd hz HNE.out) ?_));clear hs;intro p hp hpl w hs;(try simp only[pS] at hs);have HP3:=Lib.hid hp;clear hp hpl)|((with_reducible refine Se.iL 8 ?_);(refine Se.toL rfl (Se.men hs rfl rfl (List.mem_cons_of_mem _ List.mem_cons_self) ?_))))
   have HS:=Lib.hid (perm_step HND.out HP.out HP3.out)
   have HL:=Lib.hid (delP_lt HP3.out)
   obtain⟨z,hz⟩:∃ z,z=p.1:=⟨_,rfl⟩
   rw[<-hz] at hs HS HL ⊢
   have YY:=Lib.hid (show ∀ W,St w0 X ([.blk gb 110 [.map (some gm)],mit gi gm .u16 l (Se.delP r z) (some p)]++T) W->_ from fun W h=>HY.out k z (k.1++[z],[.blk gb 110 [.map (some gm)],mit gi gm .u16 l (Se.delP r z) (some p)]) ⟨rfl,by have h5:=HS.out.length_eq;simp only[List.length_append,List.length_map,List.length_cons,List.length_nil] at h5 ⊢;omega⟩ T W HJ.out h)
   clear hz;(try simp only[pU]);refine(Se.wp_WF (n:=0)).1 (wpIn_region_lit ?_)
   iterate 2 (refine Se.qLI (by intro _ h;cases h) (by rfl) (v:=?_) ?_ ?_;rotate_left;(focus (go_simp;(first|done|with_reducible rfl)));(try simp only[pU]))
   refine Se.ylI (by intro _ h;cases h) (by rfl) (l:=y) (args:=#[.int .u16 z]) (by go_simp) (Se.yieldMono (YY.out w hs) rfl ?_);clear hs;rintro e w (⟨rfl,T',HJ',hs⟩|⟨rfl,T',HJ',hs⟩)
   ·have HJ':=Lib.hid HJ'
    refine⟨_,rfl,?_⟩;(try simp only[pU])
    iterate 1 (refine Se.qLI (by intro _ h;cases h) (by rfl) (v:=?_) ?_ ?_;rotate_left;(focus (go_simp;(first|done|with_reducible rfl)));(try simp only[pU]))
    refine wpListIn_nil ?_;simp only[Exit.then]
    go_at_K
    go_wp2_with fail
    go_roundg (0+(Se.delP r z).length)
    case measure=>have:=HL.out;omega
    case rel=>exact⟨Se.delP r z,_,_,T',rfl,HJ',HS,hs⟩
   ·refine⟨_,rfl,?_⟩
    (try simp only[pU])
    iterate 1 (refine Se.qLI (by intro _ h;cases h) (by rfl) (v:=?_) ?_ ?_;rotate_left;(focus (go_simp;(first|done|with_reducible rfl)));(try simp only[pU]))
    refine wpListIn_nil ?_;simp only[Exit.then]
    go_at_K
    go_wp2_with fail
    exact⟨rfl,_,results_none rfl _ _ _,⟨_,rfl⟩,.inr ⟨_,_,T',HJ',hs⟩⟩
theorem keysR_st{gm:Nat}(hs:St w0 X L w):Calls Tryz.prog 126 #[.map (some gm)] w fun e w'=>∃ gb,e=.returned (.func (.func 160) #[] #[.pointer (some ⟨gb,0,none⟩)])/\St w0 X (.blk gb 110 [.map (some gm)]::L) w':=by
 go_enter Tryz.func126,Tryz.ntmps126
 go_wp2_with (first|((with_reducible refine Se.iL 1 ?_);(refine Se.toL rfl (Se.bx hs rfl rfl (l:=[.map (some gm)]) rfl ?_);clear hs;rintro w g1-hs))|((first|with_reducible refine Se.ab hs ?_|with_reducible refine Se.abc hs ?_);clear hs;(first|(generalize w.heap.size=g1;intro w hs))))
 go_ret;exact⟨g1,rfl,hs⟩
abbrev sB(g2:Nat)(A:Option Addr)(n c:Nat):At:=.blk g2 26 [.slice A n c]
theorem zip1u(T:Array Value)(p:Tmp)(u:Value):((#[p]:Array Tmp).zip #[u]).foldl (fun t (p,v)=>t.setIfInBounds p v) T=T.setIfInBounds p u:=by simp
theorem res1{P:Program}{fn:Func}{T:Array Value}{p:Tmp}{v:Value}{w:World}(hr:fn.results=#[.tmp p])(hp:T.getD p undef=v):(results fn T).run P w=.ok v w:=by
 subst hp;simp[results,hr]
theorem appSeq_st{gf:Nat}{lb:Array Value}{M0 Me:List At}{ks:List Int}(hq:KSeq gf lb M0 Me ks)(eg:∀ args w,(callFunc gf args).run Tryz.prog w=.ok (.enter gf args) w){r:Option Nat}{A:Option Addr}{n c:Nat}{xs:List Int}(hs:St w0 X (.own 1 r A n c (us xs)::(M0++L)) w)(hn:n=xs.length)(hl:n+ks.length<=1048576) :
  Calls Tryz.prog 124 #[.slice A n c,.func (.func gf) #[] lb] w fun e w'=>∃ A' r' c' ys,e=.returned (.slice A' (n+ys.length) c')/\Hid (ys.Perm ks)/\St w0 X (.own 1 r' A' (n+ys.length) c' (us (xs++ys))::(Me++L)) w':=by
 have HQ:=Lib.hid hq
 have HN:=Lib.hid hn
 have HL:=Lib.hid hl
 clear hq hn hl;refine Se.enterM Tryz.func124 rfl ?_;simp only[Tryz.ntmps124,List.size_toArray,List.length_cons,List.length_nil,Nat.reduceAdd,Nat.reduceSub,Array.replicate_succ,Array.replicate_zero,List.push_toArray,List.append_toArray,List.nil_append,List.cons_append]
 go_wp2_with (first|((with_reducible refine Se.iL 2 ?_);(refine Se.toL rfl (Se.bx hs rfl rfl (l:=[.slice A n c]) rfl ?_);clear hs;rintro w g2-hs))|((first|with_reducible refine Se.ab hs ?_|with_reducible refine Se.abc hs ?_);clear hs;(first|(generalize w.heap.size=g2;intro w hs))))
 have hs:=hs.perm (L':=[.own 1 r A n c (us xs),sB g2 A n c]++(M0++L)) (List.Perm.swap _ _ _)
 refine Se.rangeG (lb:=lb) hs rfl eg HQ.out (fun _=>rfl)
  (fun k Lb=>∃ A' r' c',Lb=[.own 1 r' A' (n+k.1.length) c' (us (xs++k.1)),sB g2 A' (n+k.1.length) c'])
  (fun _ _ _=>False) ⟨A,r,c,by simp⟩ ?_ ?_ ?_
 ·rintro l k z k' Lb w T ⟨hk,hle⟩ ⟨A',r',c',rfl⟩ hs
  obtain⟨m,hm⟩:∃ m,m=n+k.1.length:=⟨_,rfl⟩
  have HX:Hid (∀ A2 r2 c2,([.own 1 r2 A2 (m+1) c2 (us (xs++k.1)++[.int .u16 z]),sB g2 A2 (m+1) c2]:List At)=[.own 1 r2 A2 (n+k'.1.length) c2 (us (xs++k'.1)),sB g2 A2 (n+k'.1.length) c2]):=Lib.hid (fun A2 r2 c2=>by
   have e1:n+k'.1.length=m+1:=by rw[hk,List.length_append,hm];rfl
   have e2:us (xs++k'.1)=us (xs++k.1)++[.int .u16 z]:=by rw[hk,<-List.append_assoc,us_app];rfl
   rw[e1,e2])
  have h5:k'.1.length=k.1.length+1:=by rw[hk,List.length_append];rfl
  have hm2:m+1<=1048576:=by have:=HL.out;omega
  clear h5;rw[<-hm] at hs;simp only[List.cons_append,List.nil_append] at hs;rw[zip1u];simp only[List.setIfInBounds_toArray,List.set_cons_zero,List.set_cons_succ];clear hk hm hle
  repeat (first|refine wpIn_block ?_|refine wpIn_seq ?_)
  refine Se.regI (by repeat (first|exact Se.roundSt_out|exact Se.falsePost_out|refine Se.then_out ?_|refine Se.block_out ?_)) (by rfl) ?_
  go_wp2_with fail
  (try simp only[Exit.then])
  refine⟨[.own 1 r' A' m c' (us (xs++k.1)),sB g2 A' m c'],hs,?_⟩;clear hs;clear w T;intro w T hs;simp only[List.cons_append,List.nil_append] at hs
  repeat (first|refine wpIn_block ?_|refine wpIn_seq ?_)
  refine Se.regI (by repeat (first|exact Se.roundSt_out|exact Se.falsePost_out|refine Se.then_out ?_|refine Se.block_out ?_)) (by rfl) ?_
  go_wp2_with (first|((with_reducible refine Se.iL 8 ?_);(refine Se.Ld hs rfl rfl (Cell.blk 1 rfl rfl) ?_))|((with_reducible refine Se.iL 10 ?_);(refine Se.toL rfl (Se.bsv (o:=⟨some 10,_,_,_,_,_⟩) hs rfl Tryz.underlying26 u16_i rfl ([.int .u16 z]) (by rfl) (by rfl) (by decide) (by decide) (by simp[Value.oneCell']) ?_);clear hs;rintro w g10-hs))|((with_reducible refine Se.iL 11 ?_);(refine Se.toL rfl (Se.ap (o:=⟨some 11,_,_,_,_,_⟩) 1 hs rfl rfl rfl rfl (Reads.blk 0 rfl) Tryz.underlying26 u16_i3 (rfl) (by decide) (by simp[Value.oneCell']) (rfl) (by omega) (by omega) ?_);clear hs;rintro w r2 B2 c2 hs;try simp only[pS] at hs;try simp only[Nat.zero_add,List.nil_append] at hs;try simp only[Nat.zero_add]))|((with_reducible refine Se.iN ?_);(refine Se.So 2 hs rfl rfl rfl (by simp) ?_;clear hs;intro w hs;try simp only[pS] at hs)))
  (try simp only[Exit.then])
  refine⟨_,⟨B2,r2,c2,rfl⟩,?_⟩;rw[<-HX.out];exact hs.drop
 ·rintro D k Lb w hk ⟨A',r',c',rfl⟩ hs
  simp only[Exit.inBlock,Exit.then]
  go_at_K
  simp only[List.cons_append,List.nil_append] at hs
  go_wp2_with (first|((with_reducible refine Se.iL 12 ?_);(refine Se.Ld hs rfl rfl (Cell.blk 1 rfl rfl) ?_)))
  refine Se.leave1 (Se.St.mid (Lb:=[_,_]) hs) ?_;clear hs;intro w hs;refine Se.leave0 (res1 rfl rfl) ?_;refine⟨A',r',c',k.1,rfl,Lib.hid hk,?_⟩;simp only[List.cons_append,List.nil_append] at hs;exact hs.sub (List.Sublist.cons_cons _ (List.sublist_cons_self _ _))
 ·rintro D c k Lb w h
  exact h.elim
theorem collect_st{gf:Nat}{lb:Array Value}{M0 Me:List At}{ks:List Int}(hq:KSeq gf lb M0 Me ks)(eg:∀ args w,(callFunc gf args).run Tryz.prog w=.ok (.enter gf args) w)(hs:St w0 X (M0++L) w)(hl:ks.length<=1048576) :
  Calls Tryz.prog 105 #[.func (.func gf) #[] lb] w fun e w'=>∃ A' r' c' ys,e=.returned (.slice A' (List.length ys) c')/\Hid (ys.Perm ks)/\St w0 X (.own 1 r' A' (List.length ys) c' (us ys)::(Me++L)) w':=by
 have CA:Hid (∀ w,St w0 X (M0++L) w->Calls Tryz.prog 124 #[.slice none 0 0,.func (.func gf) #[] lb] w fun e w'=>∃ A' r' c' ys,e=.returned (.slice A' (List.length ys) c')/\Hid (ys.Perm ks)/\St w0 X (.own 1 r' A' (List.length ys) c' (us ys)::(Me++L)) w'):=Lib.hid (fun w hs=>by
  refine(appSeq_st hq eg (xs:=[]) (hs.nil_own 1 none) rfl (by omega)).mono ?_;rintro e w' ⟨A',r',c',ys,h1,h2,h3⟩;rw[Nat.zero_add] at h1 h3;exact⟨A',r',c',ys,h1,h2,h3⟩)
 clear hq eg hl
 go_enter Tryz.func105,Tryz.ntmps105
 go_wp2_with (first|(go_at_call 124;refine Calls.mono (CA.out _ hs) ?_;clear hs;rintro e w ⟨A',r',c',ys,rfl,hys,hs⟩))
 go_ret;exact⟨A',r',c',ys,rfl,hys,hs⟩
theorem srt_perm{a b:List Int}(h:a.Perm b):srt a=srt b:=by
 have hA:=Go.Sort.insertionSort_holds (lt:=Go.Sort.ltInt) Go.Sort.swo_ltInt a.toArray 0 a.length (Nat.zero_le _) (by simp)
 obtain⟨d,hd⟩:∃ d,d=Go.Sort.insertionSort Go.Sort.ltInt a.toArray 0 a.length:=⟨_,rfl⟩
 rw[<-hd] at hA
 have hanti:∀ x y:Int,Go.Sort.ltInt x y=false->Go.Sort.ltInt y x=false->x=y:=fun x y h1 h2=>by
  simp only[Go.Sort.ltInt,decide_eq_false_iff_not] at h1 h2;omega
 have hs:d.size=a.length:=by simpa using hA.1.1
 have h1:=Go.Sort.sorted_unique_holds (lt:=Go.Sort.ltInt) Go.Sort.swo_ltInt hanti a.toArray d (by simpa using hA.1) (by simpa using hA.2)
 have h2:=Go.Sort.sorted_unique_holds (lt:=Go.Sort.ltInt) Go.Sort.swo_ltInt hanti b.toArray d (by
  refine⟨by simp[hs,h.length_eq],fun i hi=>?_,?_⟩
  ·rcases hi with hi|hi
   ·exact absurd hi (Nat.not_lt_zero _)
   ·simp only[List.size_toArray] at hi
    have e1:d[i]! = default:=by show d.getD i default=default;simp[Array.getD,show ¬ i<d.size by rw[hs,h.length_eq];omega]
    have e2:b.toArray[i]! = default:=by show b.toArray.getD i default=default;simp[Array.getD,show ¬ i<b.length by omega]
    rw[e1,e2]
  ·have h3:=hA.1.2.2
   have e1:(d.extract 0 a.length).toList=d.toList:=by rw[<-hs];simp
   have e2:(a.toArray.extract 0 a.length).toList=a:=by simp
   rw[e1,e2] at h3
   have e3:(d.extract 0 b.toArray.size).toList=d.toList:=by rw[show b.toArray.size=d.size by simp[hs,h.length_eq]];simp
   have e4:(b.toArray.extract 0 b.toArray.size).toList=b:=by simp
   rw[e3,e4];exact h3.trans h) (by rw[show b.toArray.size=a.length by simp[h.length_eq]];exact hA.2)
 have e:(fun x y:Int => !Go.Sort.ltInt y x)=(fun x y=>decide (x<=y)):=by
  funext x y
  simp only[Go.Sort.ltInt,<-decide_not];exact decide_eq_decide.2 (by omega)
 unfold srt;rw[e] at h1 h2;simp only at h1 h2;rw[<-h1,<-h2]
def outZ(s:Ss):List Int:=(outE s).map n16
theorem outZ_srt(s:Ss):srt (s.tx.map (fun p=>n16 p.1)++s.rp.map (fun p=>n16 p.1))=outZ s:=by
 unfold outZ outE srt;rw[List.map_mergeSort (s:=fun x y=>decide (x<=y))]
 ·rw[List.map_append,List.map_map,List.map_map]
  rfl
 ·intro a _ b _
  unfold n16;exact decide_eq_decide.2 (by omega)
theorem keys_tPs(tl:TL):(tPs tl).map (·.1)=tl.map (fun p=>n16 p.1):=by unfold tPs toP;rw[List.map_map];rfl
theorem keys_rPs(l:List (BitVec 16 × Nat)):(rPs l).map (·.1)=l.map (fun p=>n16 p.1):=by unfold rPs toP;rw[List.map_map];rfl
abbrev iM(g1 g:Nat)(s:Ss)(k:Pl):List At:=[.blk g1 83 [.pointer (some ⟨g,0,none⟩)],qS g s k.h,mp k.h.gt .u16 (tPs k.tl),mp k.h.gp .u16 (rPs s.rp)]
def OSeq(gf:Nat)(lb:Array Value)(M0 Me:List At)(xs:List Int):Prop :=
 SeqG Tryz.prog gf lb (fun z:Int=>#[.int .u16 z]) (fun(k:Nat × List At) z (k':Nat × List At)=>xs[k.1]? = some z/\k'.1=k.1+1) (fun k=>k.1=xs.length) (fun k=>k.2) (fun _=>Me) (0,M0)
theorem ids_seq{g1 g:Nat}{s:Ss}{k:Pl}(ok:OkP s k)(hl:s.tx.length+s.rp.length<=12):OSeq 123 #[.pointer (some ⟨g1,0,none⟩)] (iM g1 g s k) (iM g1 g s k) (outZ s):=by
 intro y w0 X J Jx hY T w h0 hs;simp only[List.cons_append,List.nil_append] at hs
 have HY:=Lib.hid hY
 have H0:=Lib.hid h0
 have S15:=Lib.hid (scl_at s k.h).2.2.2.2.2.1
 have S16:=Lib.hid (scl_at s k.h).2.2.2.2.2.2.1
 have hlt:k.tl.length=s.tx.length:=by rw[ok.tx];exact(len_mapA _ _).symm
 have HLT:=Lib.hid (show((tPs k.tl).map (·.1)).length<=1048576 by rw[List.length_map,tPs,len_toP];omega)
 obtain⟨zs,hzs⟩:∃ zs,zs=outZ s:=⟨_,rfl⟩
 have HSR:=Lib.hid (show ∀ a b:List Int,a.Perm ((tPs k.tl).map (·.1))->b.Perm ((rPs s.rp).map (·.1))->srt (a++b)=zs/\(a++b).length<=12/\zs.length=(a++b).length from fun a b ha hb=>by
  have hp:(a++b).Perm (s.tx.map (fun p=>n16 p.1)++s.rp.map (fun p=>n16 p.1)):=by
   rw[keys_tPs] at ha;rw[keys_rPs] at hb
   have e:s.tx.map (fun p=>n16 p.1)=k.tl.map (fun p=>n16 p.1):=by rw[ok.tx];unfold txs mapA;rw[List.map_map];rfl
   rw[e];exact ha.append hb
  refine⟨by rw[hzs,<-outZ_srt];exact srt_perm hp,by rw[hp.length_eq];simpa using hl,?_⟩;rw[hzs,<-outZ_srt];unfold srt;rw[List.length_mergeSort,hp.length_eq])
 have CC:Hid (∀ gb w,St w0 X (.blk gb 109 [.map (some k.h.gt)]::.blk g1 83 [.pointer (some ⟨g,0,none⟩)]::qS g s k.h::mp k.h.gt .u16 (tPs k.tl)::mp k.h.gp .u16 (rPs s.rp)::T) w->Calls Tryz.prog 105 #[.func (.func 159) #[] #[.pointer (some ⟨gb,0,none⟩)]] w fun e w'=>∃ A' r' c' ys,e=.returned (.slice A' (List.length ys) c')/\Hid (ys.Perm ((tPs k.tl).map (·.1)))/\St w0 X (.own 1 r' A' (List.length ys) c' (us ys)::.blk g1 83 [.pointer (some ⟨g,0,none⟩)]::qS g s k.h::mp k.h.gt .u16 (tPs k.tl)::mp k.h.gp .u16 (rPs s.rp)::T) w'):=Lib.hid (fun gb w hs=>by
  have h1:=hs.perm (List.Perm.cons _ (List.perm_append_comm_assoc [_,_] [_] _))
  refine(collect_st (keysT_seq (gb:=gb)) (Go.Proofs.enters_of Tryz.func159 (by kernel_rfl) rfl) (L:=.blk g1 83 [.pointer (some ⟨g,0,none⟩)]::qS g s k.h::mp k.h.gp .u16 (rPs s.rp)::T) h1 HLT.out).mono ?_;rintro e w' ⟨A',r',c',ys,h2,h3,h4⟩;refine⟨A',r',c',ys,h2,h3,?_⟩;exact(h4.sub (List.Sublist.cons_cons _ (List.sublist_cons_self _ _))).perm (List.Perm.cons _ (List.perm_append_comm_assoc [_] [_,_] _)))
 have CA:Hid (∀ gb (r:Option Nat) (A:Option Addr) (c:Nat) (xs:List Int) w,xs.Perm ((tPs k.tl).map (·.1))->St w0 X (.blk gb 110 [.map (some k.h.gp)]::.own 1 r A (List.length xs) c (us xs)::.blk g1 83 [.pointer (some ⟨g,0,none⟩)]::qS g s k.h::mp k.h.gt .u16 (tPs k.tl)::mp k.h.gp .u16 (rPs s.rp)::T) w->Calls Tryz.prog 124 #[.slice A (List.length xs) c,.func (.func 160) #[] #[.pointer (some ⟨gb,0,none⟩)]] w fun e w'=>∃ A' r' c',∃ zs':List Int,e=.returned (.slice A' (List.length zs') c')/\Hid (srt zs'=zs/\List.length zs'<=12/\zs.length=List.length zs')/\St w0 X (.own 1 r' A' (List.length zs') c' (us zs')::.blk g1 83 [.pointer (some ⟨g,0,none⟩)]::qS g s k.h::mp k.h.gt .u16 (tPs k.tl)::mp k.h.gp .u16 (rPs s.rp)::T) w'):=Lib.hid (fun gb r A c xs w hx hs=>by
  have h1:=hs.perm ((List.perm_append_comm_assoc [_] [_] _).trans (List.Perm.cons _ (List.Perm.cons _ (List.perm_append_comm_assoc [_,_,_] [_] _))))
  refine(appSeq_st (keysR_seq (gb:=gb)) (Go.Proofs.enters_of Tryz.func160 (by kernel_rfl) rfl) (L:=.blk g1 83 [.pointer (some ⟨g,0,none⟩)]::qS g s k.h::mp k.h.gt .u16 (tPs k.tl)::T) h1 rfl (by rw[hx.length_eq];simp only[List.length_map,tPs,rPs,len_toP];omega)).mono ?_;rintro e w' ⟨A',r',c',ys,h2,h3,h4⟩
  have e1:List.length (xs++ys)=List.length xs+List.length ys:=List.length_append
  refine⟨A',r',c',xs++ys,by rw[e1];exact h2,Lib.hid (HSR.out xs ys hx h3.out),?_⟩;rw[e1];exact(h4.sub (List.Sublist.cons_cons _ (List.sublist_cons_self _ _))).perm (List.Perm.cons _ (List.perm_append_comm_assoc [_] [_,_,_] _)))
 rw[<-hzs] at hY
 have HY:=Lib.hid hY
 rw[show(#[Value.func (.yield y) #[] #[]]++#[Value.pointer (some ⟨g1,0,none⟩)]:Array Value)=#[.func (.yield y) #[] #[],.pointer (some ⟨g1,0,none⟩)] from rfl];rw[<-hzs];clear hY h0 hzs hlt hl
 have SA:=Lib.hid (show ∀ (M:List At) w',St w0 X (M++(.blk g1 83 [.pointer (some ⟨g,0,none⟩)]::qS g s k.h::mp k.h.gt .u16 (tPs k.tl)::mp k.h.gp .u16 (rPs s.rp)::T)) w'->Blk w' g1 [.pointer (some ⟨g,0,none⟩)] 83/\Blk w' g (scl s k.h) 112 from fun M w' h=>⟨h.hold (.blk g1 83 [.pointer (some ⟨g,0,none⟩)]) (by simp),h.hold (qS g s k.h) (by simp)⟩)
 go_enter Tryz.func123,Tryz.ntmps123
 go_upto_region 0 with (fail)
 refine Ch.region' 13 (fun wx=>Blk wx g1 [.pointer (some ⟨g,0,none⟩)] 83/\Blk wx g (scl s k.h) 112) (fun|4=>true|5=>true|10=>true|11=>true|_=>false) (by kernel_rfl) (by decide +kernel) (SA.out [] _ hs.drew) ?_;replace hs:=hs.drew;generalize w.drew=w at hs ⊢;change Ch.CW _ _ _ _ _ [0,1,2,3,4,5,6,7,8,9,10,11,12] _ _
 iterate 4 ((first|refine Ch.pA ?_|refine Ch.pE (hv:=fun wx hS=>Se.xL (hc:=by rw[(hS.1).cell];rfl)) (h:=?_)|refine Ch.pE (hv:=fun wx hS=>Se.xL (hc:=((hS.2.cell _).trans S15.out))) (h:=?_));(try simp only[pU]))
 refine Ch.cA (f:=125) (args:=#[.map (some k.h.gt)]) (keysT_st hs) ?_;clear hs;rintro e w⟨gb1,rfl,hs⟩;refine⟨_,rfl,SA.out [_] _ hs,?_⟩;(try simp only[pU]);refine Ch.cA (f:=105) (args:=#[.func (.func 159) #[] #[.pointer (some ⟨gb1,0,none⟩)]]) (CC.out _ _ hs) ?_;clear hs;rintro e w⟨A1,r1,c1,ys,rfl,hys,hs⟩;refine⟨_,rfl,SA.out [_] _ hs,?_⟩;(try simp only[pU])
 iterate 4 ((first|refine Ch.pA ?_|refine Ch.pE (hv:=fun wx hS=>Se.xL (hc:=by rw[(hS.1).cell];rfl)) (h:=?_)|refine Ch.pE (hv:=fun wx hS=>Se.xL (hc:=((hS.2.cell _).trans S16.out))) (h:=?_));(try simp only[pU]))
 refine Ch.cA (f:=126) (args:=#[.map (some k.h.gp)]) (keysR_st hs) ?_;clear hs;rintro e w⟨gb2,rfl,hs⟩;refine⟨_,rfl,SA.out [_,_] _ hs,?_⟩;(try simp only[pU]);refine Ch.cA (f:=124) (args:=#[.slice A1 (List.length ys) c1,.func (.func 160) #[] #[.pointer (some ⟨gb2,0,none⟩)]]) (CA.out _ _ _ _ _ _ hys.out hs) ?_;clear hs;rintro e w⟨A2,r2,c2,zs',rfl,HZ,hs⟩;refine⟨_,rfl,SA.out [_] _ hs,?_⟩;(try simp only[pU])
 iterate 1 (refine Ch.pA ?_;(try simp only[pU]))
 refine Ch.done ?_
 try simp only[List.drop_succ_cons,List.drop_zero]
 clear SA CC CA S15 S16 HSR
 obtain⟨n,hn⟩:∃ n,n=List.length zs':=⟨_,rfl⟩
 rw[<-hn] at hs HZ ⊢
 have CS:Hid (∀ w,St w0 X (.own 1 r2 A2 n c2 (us zs')::iM g1 g s k++T) w->Calls Tryz.prog 106 #[.slice A2 n c2] w fun e w'=>e=.returned (.tuple #[])/\St w0 X (.own 1 r2 A2 n c2 (us zs)::iM g1 g s k++T) w'):=Lib.hid (fun w hs=>by
  rw[<-HZ.out.1];exact Su.sort_st zs' hs hn HZ.out.2.1)
 have HNZ:=Lib.hid HZ.out.2.2
 have hn12:n<=12:=HZ.out.2.1
 clear HZ hn hys
 go_upto_region 2 with (first|(go_at_call 106;refine Calls.mono (CS.out _ hs) ?_;clear hs;rintro e w ⟨rfl,hs⟩))
 simp only[List.cons_append,List.nil_append] at hs
 go_wp2_with fail
 go_loopg [22] (n-0) (fun gh s22 wr=>∃ (i:Nat) (kk:Nat × List At) (T':List At),gh=n-i/\i<=n/\s22=.int .i64 (i:Nat)/\Hid (kk.1=i)/\Hid (J kk T')/\St w0 X (.own 1 r2 A2 n c2 (us zs)::.blk g1 83 [.pointer (some ⟨g,0,none⟩)]::qS g s k.h::mp k.h.gt .u16 (tPs k.tl)::mp k.h.gp .u16 (rPs s.rp)::T') wr)
 case atStart=>exact⟨0,_,T,rfl,Nat.zero_le _,rfl,Lib.hid rfl,H0,hs⟩
 case round =>
  clear hs H0 CS T
  rename World=>w
  obtain⟨i,kk,T,rfl,hi,rfl,HK,HJ,hs⟩:=hrel
  by_cases hlt:i<n
  ·have hlt':(i:Int)<(n:Int):=by omega
   have hlz:i<zs.length:=by rw[HNZ.out];exact hlt
   obtain⟨ga,oa,rfl,rfl⟩:=hs.own_at 0 rfl (by omega)
   obtain⟨z,hz⟩:∃ z,z=zs[i]:=⟨_,rfl⟩
   have HZC:=Lib.hid (show(us zs)[i]? = some (.int .u16 z) by unfold us;rw[List.getElem?_map,List.getElem?_eq_getElem hlz,hz];rfl)
   have YY:=Lib.hid (show ∀ W,St w0 X ((.own 1 (some ga) (some ⟨ga,oa,none⟩) n c2 (us zs)::iM g1 g s k)++T) W->_ from fun W h=>HY.out kk z (i+1,.own 1 (some ga) (some ⟨ga,oa,none⟩) n c2 (us zs)::iM g1 g s k) ⟨by rw[HK.out,List.getElem?_eq_getElem hlz,hz],by rw[HK.out]⟩ T W HJ.out h)
   have hw:=IntWalk.i64_in ((i:Int)+1) (by omega)
   clear hz hlz
   go_upto_region 5 with (first|((with_reducible refine Se.iL 25 ?_);(refine Se.Ld hs rfl rfl ((Reads.own 0 rfl).cell i HZC.out) ?_)))
   refine(Se.wp_WF (n:=0)).1 (wpIn_region_lit ?_)
   iterate 2 (refine Se.qLI (by intro _ h;cases h) (by rfl) (v:=?_) ?_ ?_;rotate_left;(focus (go_simp;(first|done|with_reducible rfl)));(try simp only[pU]))
   refine Se.ylI (by intro _ h;cases h) (by rfl) (l:=y) (args:=#[.int .u16 z]) (by go_simp) (Se.yieldMono (YY.out w hs) rfl ?_);clear hs;rintro e w (⟨rfl,T',HJ',hs⟩|⟨rfl,T',HJ',hs⟩)
   ·have HJ':=Lib.hid HJ'
    refine⟨_,rfl,?_⟩;(try simp only[pU])
    iterate 1 (refine Se.qLI (by intro _ h;cases h) (by rfl) (v:=?_) ?_ ?_;rotate_left;(focus (go_simp;(first|done|with_reducible rfl)));(try simp only[pU]))
    refine wpListIn_nil ?_;simp only[Exit.then]
    go_at_K
    go_wp2_with fail
    go_roundg (n-(i+1))
    case measure=>omega
    case rel=>exact⟨i+1,_,T',rfl,by omega,by go_num,Lib.hid rfl,HJ',hs⟩
   ·refine⟨_,rfl,?_⟩
    (try simp only[pU])
    iterate 1 (refine Se.qLI (by intro _ h;cases h) (by rfl) (v:=?_) ?_ ?_;rotate_left;(focus (go_simp;(first|done|with_reducible rfl)));(try simp only[pU]))
    refine wpListIn_nil ?_;simp only[Exit.then]
    go_at_K
    go_wp2_with fail
    exact⟨rfl,_,results_none rfl _ _ _,⟨_,rfl⟩,.inr ⟨_,_,T',HJ',hs⟩⟩
  ·obtain rfl:i=n:=by omega
   go_wp2_with fail
   refine⟨rfl,_,results_none rfl _ _ _,⟨_,rfl⟩,.inl ⟨kk,T,by rw[HK.out,HNZ.out],HJ.out,hs.drop⟩⟩
end Sn
end Go.Proofs.YtjnllcnknjlmmaaGreat
