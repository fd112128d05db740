/- Part of the proof that the law FnServiceLine of the given program returns true for every input. -/
import Derived.Below
import Derived.BigQuiet
import Derived.Deep.DeepCutAuto
import Derived.Deep.Draws
import Derived.Deep.QuietTactic
import Derived.Laws.BitsAllLaws
import Derived.Laws.BitsLemmas
import Derived.Laws.OwnMore
import Derived.Laws.Rows
import Derived.Lib.Hide
import Derived.OneCell
import Derived.Outline
import Derived.ProofKit
import Derived.RowKit
import Derived.Test.YtjciicheoghcdaaGreatDoorRows
import Derived.WalkKit
import Derived.WalkLawsBesides
import Derived.WalkSpells
namespace Go.Proofs.YtjciicheoghcdaaGreatDoor
open Go.RowKit
set_option linter.unusedSimpArgs false
set_option linter.unusedVariables false
set_option maxRecDepth 20000
set_option maxHeartbeats 16000000
def rv (x:Int):Bool:=decide (0<=x/\x<=4095)
theorem aR {x:Int} (h:0<=x/\x<=4095):rv x=true:=decide_eq_true h
theorem kJ {x:Int} (h:rv x=true):0<=x/\x<=4095:=of_decide_eq_true h
theorem bF {x:Int} (h:¬ (0<=x/\x<=4095)):rv x=false:=decide_eq_false h
def inB (x a b:Int):Bool:=decide (a<=x/\x<=b)
theorem vZ {x a b:Int} (h:a<=x/\x<=b):inB x a b=true:=decide_eq_true h
theorem pn {x a b:Int} (h:¬ (a<=x/\x<=b)):inB x a b=false:=decide_eq_false h
def aJ (a b:Int):Int:=if rv a=true/\rv b=true then (a+b)%4096 else -1
def bC (a b:Int):Int:=if rv a=true/\rv b=true then (a-b)%4096 else -1
def mulR (a b:Int):Int:=if rv a=true/\rv b=true then (a*b)%4096 else -1
def sgn (x:Int):Int:=if rv x=true then (if 2048<=x then x-4096 else x) else -4096
theorem ns (j:Nat) (hj:j<63) (x:Int):bits .and .i64 x ((2 ^ j-1:Nat):Int)=x%((2 ^ j:Nat):Int):=by
 show IntKind.i64.wrap ((BitVec.ofInt 64 x &&& BitVec.ofInt 64 ((2 ^ j-1:Nat):Int)).toNat:Int)=_
 have hp:2 ^ j<2 ^ 63:=Nat.pow_lt_pow_right (by omega) hj
 have hp0:0<2 ^ j:=Nat.two_pow_pos j;have e1:(BitVec.ofInt 64 ((2 ^ j-1:Nat):Int)).toNat=2 ^ j-1:=by
  rw [BitVec.ofInt_natCast,BitVec.toNat_ofNat];exact Nat.mod_eq_of_lt (by omega)
 rw [BitVec.toNat_and,e1,Nat.and_two_pow_sub_one_eq_mod];have e2:((BitVec.ofInt 64 x).toNat:Int)=x%18446744073709551616:=by
  rw [BitVec.toNat_ofInt];have:(0:Int)<=x%((2 ^ 64:Nat):Int):=Int.emod_nonneg _ (by decide)
  rw [Int.toNat_of_nonneg this];rfl
 have e3:(((BitVec.ofInt 64 x).toNat%2 ^ j:Nat):Int)=x%((2 ^ j:Nat):Int):=by
  rw [Int.natCast_emod,e2];have hd:((2 ^ j:Nat):Int)∣18446744073709551616:=by
   have:(2 ^ j:Nat)∣2 ^ 64:=Nat.pow_dvd_pow 2 (by omega)
   exact Int.natCast_dvd_natCast.mpr this
  exact Int.emod_emod_of_dvd x hd
 rw [e3];have h0:0<=x%((2 ^ j:Nat):Int):=Int.emod_nonneg _ (by omega)
 have h1:x%((2 ^ j:Nat):Int)<((2 ^ j:Nat):Int):=Int.emod_lt_of_pos _ (by omega)
 rw [IntKind.wrap_i64];have:((2 ^ j:Nat):Int)<9223372036854775808:=by
  have:((2 ^ j:Nat):Int)<((2 ^ 63:Nat):Int):=by omega
  simpa using this
 omega
theorem tL (x:Int):bits .and .i64 x 4095=x%4096:=ns 12 (by decide) x
theorem yI (x:Int):bits .and .i64 x 15=x%16:=ns 4 (by decide) x
theorem pP (x:Int):bits .and .i64 x 1=x%2:=ns 1 (by decide) x
theorem AW (x:Int):(x%4096 == x)=rv x:=by
 unfold rv
 by_cases h:0<=x/\x<=4095
 ·rw [decide_eq_true h];simp;omega
 ·rw [decide_eq_false h];simp;omega
theorem zS (x:Int):(bits .and .i64 x 4095 == x)=rv x:=by rw [tL,AW]
theorem vd (x:Int):(Int.tmod x 4096+4096).tmod 4096=x%4096:=by
 have h2:Int.tmod x 4096=x-4096*x.tdiv 4096:=by have:=Int.mul_tdiv_add_tmod x 4096;omega
 have h3: -4096<Int.tmod x 4096:=Int.lt_tmod_of_pos x (by decide)
 rw [Int.tmod_eq_emod_of_nonneg (by omega)]
 omega
theorem iL (x:Int) (w:World):Calls Tryz.prog 54 #[.int .i64 x] w fun e w'=>e= .returned (.bool (rv x))/\w=w':=by
 have h:=zS x
 go_enter Tryz.func54,Tryz.ntmps54
 go_wp2
 go_ret
 exact ⟨rfl,rfl⟩
theorem an (x:Int) (hx:0<=x/\x<=4095) (w:World):Calls Tryz.prog 54 #[.int .i64 x] w fun e w'=>e= .returned (.bool true)/\w=w':=by
 rw [<- aR hx];exact iL x w
theorem bZ (x:Int) (hx:¬ (0<=x/\x<=4095)) (w:World):Calls Tryz.prog 54 #[.int .i64 x] w fun e w'=>e= .returned (.bool false)/\w=w':=by
 rw [<- bF hx];exact iL x w
theorem dK (x:Int) (w:World):Calls Tryz.prog 180 #[.int .i64 x] w fun e w'=>e= .returned (.int .i64 (x%4096))/\w=w':=by
 have h:=tL x
 go_enter Tryz.func180,Tryz.ntmps180
 go_wp2
 go_ret
 exact ⟨rfl,rfl⟩
theorem lL (x a b:Int) (w:World):Calls Tryz.prog 53 #[.int .i64 x,.int .i64 a,.int .i64 b] w fun e w'=>e= .returned (.bool (inB x a b))/\w=w':=by
 by_cases h1:a<=x
 ·by_cases h2:x<=b
  ·rw [vZ ⟨h1,h2⟩]
   go_enter Tryz.func53,Tryz.ntmps53
   go_wp2
   go_ret
   exact ⟨by simp,rfl⟩
  ·rw [pn (fun h=>h2 h.2)]
   go_enter Tryz.func53,Tryz.ntmps53
   go_wp2
   go_ret
   exact ⟨by simp,rfl⟩
 ·rw [pn (fun h=>h1 h.1)]
  go_enter Tryz.func53,Tryz.ntmps53
  go_wp2
  go_ret
  exact ⟨rfl,rfl⟩
theorem iQ (x:Int) (w:World):Calls Tryz.prog 133 #[.int .i64 x] w fun e w'=>e= .returned (.bool (rv x))/\w=w':=by
 go_enter Tryz.func133,Tryz.ntmps133
 go_wp2_with (go_at_call 53;refine (lL _ _ _ _).mono ?_;rintro e w' ⟨rfl,rfl⟩)
 go_ret
 exact ⟨rfl,rfl⟩
theorem ak (x:Int) (hx:0<=x/\x<=4095) (w:World):Calls Tryz.prog 133 #[.int .i64 x] w fun e w'=>e= .returned (.bool true)/\w=w':=by
 rw [<- aR hx];exact iQ x w
theorem bM (x:Int) (hx:¬ (0<=x/\x<=4095)) (w:World):Calls Tryz.prog 133 #[.int .i64 x] w fun e w'=>e= .returned (.bool false)/\w=w':=by
 rw [<- bF hx];exact iQ x w
theorem bG (x:Int) (w:World):Calls Tryz.prog 132 #[.int .i64 x] w fun e w'=>e= .returned (.int .i64 (x%4096))/\w=w':=by
 have h:=vd x;have h3: -4096<Int.tmod x 4096:=Int.lt_tmod_of_pos x (by decide)
 have h4:Int.tmod x 4096<4096:=Int.tmod_lt_of_pos x (by decide)
 go_enter Tryz.func132,Tryz.ntmps132
 go_wp2
 go_ret
 exact ⟨rfl,rfl⟩
theorem iX (x y:Int) (w:World):Calls Tryz.prog 146 #[.int .i64 x,.int .i64 y] w fun e w'=>e= .returned (.int .i64 (aJ x y))/\w=w':=by
 by_cases h1:0<=x/\x<=4095
 ·by_cases h2:0<=y/\y<=4095
  ·have e:aJ x y=(x+y)%4096:=by simp [aJ,aR h1,aR h2]
   rw [e];obtain ⟨a1,a2⟩:=h1;obtain ⟨b1,b2⟩:=h2;clear e
   go_enter Tryz.func146,Tryz.ntmps146
   go_wp2_with (first | (go_at_call 54;refine (an _ ⟨by omega,by omega⟩ _).mono ?_;rintro e w' ⟨rfl,rfl⟩) | (go_at_call 180;refine (dK _ _).mono ?_;rintro e w' ⟨rfl,rfl⟩))
   go_ret
   exact ⟨rfl,rfl⟩
  ·have e:aJ x y= -1:=by simp [aJ,bF h2]
   rw [e];clear e
   go_enter Tryz.func146,Tryz.ntmps146
   go_wp2_with fail
   refine (an _ h1 _).mono ?_;rintro e w' ⟨rfl,rfl⟩
   go_wp2_with fail
   refine (bZ _ h2 _).mono ?_;rintro e w' ⟨rfl,rfl⟩;go_wp2
   go_ret
   exact ⟨rfl,rfl⟩
 ·have e:aJ x y= -1:=by simp [aJ,bF h1]
  rw [e];clear e
  go_enter Tryz.func146,Tryz.ntmps146
  go_wp2_with (go_at_call 54;refine (bZ _ h1 _).mono ?_;rintro e w' ⟨rfl,rfl⟩)
  go_ret
  exact ⟨rfl,rfl⟩
theorem gD (x y:Int) (w:World):Calls Tryz.prog 209 #[.int .i64 x,.int .i64 y] w fun e w'=>e= .returned (.int .i64 (bC x y))/\w=w':=by
 by_cases h1:0<=x/\x<=4095
 ·by_cases h2:0<=y/\y<=4095
  ·have e:bC x y=(x-y)%4096:=by simp [bC,aR h1,aR h2]
   rw [e];obtain ⟨a1,a2⟩:=h1;obtain ⟨b1,b2⟩:=h2;clear e
   go_enter Tryz.func209,Tryz.ntmps209
   go_wp2_with (first | (go_at_call 54;refine (an _ ⟨by omega,by omega⟩ _).mono ?_;rintro e w' ⟨rfl,rfl⟩) | (go_at_call 180;refine (dK _ _).mono ?_;rintro e w' ⟨rfl,rfl⟩))
   go_ret
   exact ⟨rfl,rfl⟩
  ·have e:bC x y= -1:=by simp [bC,bF h2]
   rw [e];clear e
   go_enter Tryz.func209,Tryz.ntmps209
   go_wp2_with fail
   refine (an _ h1 _).mono ?_;rintro e w' ⟨rfl,rfl⟩
   go_wp2_with fail
   refine (bZ _ h2 _).mono ?_;rintro e w' ⟨rfl,rfl⟩;go_wp2
   go_ret
   exact ⟨rfl,rfl⟩
 ·have e:bC x y= -1:=by simp [bC,bF h1]
  rw [e];clear e
  go_enter Tryz.func209,Tryz.ntmps209
  go_wp2_with (go_at_call 54;refine (bZ _ h1 _).mono ?_;rintro e w' ⟨rfl,rfl⟩)
  go_ret
  exact ⟨rfl,rfl⟩
theorem uN (x y:Int) (w:World):Calls Tryz.prog 303 #[.int .i64 x,.int .i64 y] w fun e w'=>e= .returned (.int .i64 (mulR x y))/\w=w':=by
 by_cases h1:0<=x/\x<=4095
 ·by_cases h2:0<=y/\y<=4095
  ·have e:mulR x y=(x*y)%4096:=by simp [mulR,aR h1,aR h2]
   rw [e];obtain ⟨a1,a2⟩:=h1;obtain ⟨b1,b2⟩:=h2;clear e;have p1:0<=x*y:=Int.mul_nonneg a1 b1;have p2:x*y<=4095*4095:=Int.mul_le_mul a2 b2 b1 (by decide)
   go_enter Tryz.func303,Tryz.ntmps303
   go_wp2_with (first | (go_at_call 54;refine (an _ ⟨by omega,by omega⟩ _).mono ?_;rintro e w' ⟨rfl,rfl⟩) | (go_at_call 180;refine (dK _ _).mono ?_;rintro e w' ⟨rfl,rfl⟩))
   go_ret
   exact ⟨rfl,rfl⟩
  ·have e:mulR x y= -1:=by simp [mulR,bF h2]
   rw [e];clear e
   go_enter Tryz.func303,Tryz.ntmps303
   go_wp2_with fail
   refine (an _ h1 _).mono ?_;rintro e w' ⟨rfl,rfl⟩
   go_wp2_with fail
   refine (bZ _ h2 _).mono ?_;rintro e w' ⟨rfl,rfl⟩;go_wp2
   go_ret
   exact ⟨rfl,rfl⟩
 ·have e:mulR x y= -1:=by simp [mulR,bF h1]
  rw [e];clear e
  go_enter Tryz.func303,Tryz.ntmps303
  go_wp2_with (go_at_call 54;refine (bZ _ h1 _).mono ?_;rintro e w' ⟨rfl,rfl⟩)
  go_ret
  exact ⟨rfl,rfl⟩
theorem pG (x y:Int) (w:World):Calls Tryz.prog 142 #[.int .i64 x,.int .i64 y] w fun e w'=>e= .returned (.int .i64 (aJ x y))/\w=w':=by
 by_cases h1:0<=x/\x<=4095
 ·by_cases h2:0<=y/\y<=4095
  ·have e:aJ x y=(x+y)%4096:=by simp [aJ,aR h1,aR h2]
   rw [e];obtain ⟨a1,a2⟩:=h1;obtain ⟨b1,b2⟩:=h2;clear e
   go_enter Tryz.func142,Tryz.ntmps142
   go_wp2_with (first | (go_at_call 133;refine (ak _ ⟨by omega,by omega⟩ _).mono ?_;rintro e w' ⟨rfl,rfl⟩) | (go_at_call 132;refine (bG _ _).mono ?_;rintro e w' ⟨rfl,rfl⟩))
   go_ret
   exact ⟨rfl,rfl⟩
  ·have e:aJ x y= -1:=by simp [aJ,bF h2]
   rw [e];clear e
   go_enter Tryz.func142,Tryz.ntmps142
   go_wp2_with fail
   refine (ak _ h1 _).mono ?_;rintro e w' ⟨rfl,rfl⟩
   go_wp2_with fail
   refine (bM _ h2 _).mono ?_;rintro e w' ⟨rfl,rfl⟩;go_wp2
   go_ret
   exact ⟨rfl,rfl⟩
 ·have e:aJ x y= -1:=by simp [aJ,bF h1]
  rw [e];clear e
  go_enter Tryz.func142,Tryz.ntmps142
  go_wp2_with (go_at_call 133;refine (bM _ h1 _).mono ?_;rintro e w' ⟨rfl,rfl⟩)
  go_ret
  exact ⟨rfl,rfl⟩
theorem vj (x y:Int) (w:World):Calls Tryz.prog 137 #[.int .i64 x,.int .i64 y] w fun e w'=>e= .returned (.int .i64 (bC x y))/\w=w':=by
 by_cases h1:0<=x/\x<=4095
 ·by_cases h2:0<=y/\y<=4095
  ·have e:bC x y=(x-y)%4096:=by simp [bC,aR h1,aR h2]
   rw [e];obtain ⟨a1,a2⟩:=h1;obtain ⟨b1,b2⟩:=h2;clear e
   go_enter Tryz.func137,Tryz.ntmps137
   go_wp2_with (first | (go_at_call 133;refine (ak _ ⟨by omega,by omega⟩ _).mono ?_;rintro e w' ⟨rfl,rfl⟩) | (go_at_call 132;refine (bG _ _).mono ?_;rintro e w' ⟨rfl,rfl⟩))
   go_ret
   exact ⟨rfl,rfl⟩
  ·have e:bC x y= -1:=by simp [bC,bF h2]
   rw [e];clear e
   go_enter Tryz.func137,Tryz.ntmps137
   go_wp2_with fail
   refine (ak _ h1 _).mono ?_;rintro e w' ⟨rfl,rfl⟩
   go_wp2_with fail
   refine (bM _ h2 _).mono ?_;rintro e w' ⟨rfl,rfl⟩;go_wp2
   go_ret
   exact ⟨rfl,rfl⟩
 ·have e:bC x y= -1:=by simp [bC,bF h1]
  rw [e];clear e
  go_enter Tryz.func137,Tryz.ntmps137
  go_wp2_with (go_at_call 133;refine (bM _ h1 _).mono ?_;rintro e w' ⟨rfl,rfl⟩)
  go_ret
  exact ⟨rfl,rfl⟩
theorem pH (x y:Int) (w:World):Calls Tryz.prog 265 #[.int .i64 x,.int .i64 y] w fun e w'=>e= .returned (.int .i64 (mulR x y))/\w=w':=by
 by_cases h1:0<=x/\x<=4095
 ·by_cases h2:0<=y/\y<=4095
  ·have e:mulR x y=(x*y)%4096:=by simp [mulR,aR h1,aR h2]
   rw [e];obtain ⟨a1,a2⟩:=h1;obtain ⟨b1,b2⟩:=h2;clear e;have p1:0<=x*y:=Int.mul_nonneg a1 b1;have p2:x*y<=4095*4095:=Int.mul_le_mul a2 b2 b1 (by decide)
   go_enter Tryz.func265,Tryz.ntmps265
   go_wp2_with (first | (go_at_call 133;refine (ak _ ⟨by omega,by omega⟩ _).mono ?_;rintro e w' ⟨rfl,rfl⟩) | (go_at_call 132;refine (bG _ _).mono ?_;rintro e w' ⟨rfl,rfl⟩))
   go_ret
   exact ⟨rfl,rfl⟩
  ·have e:mulR x y= -1:=by simp [mulR,bF h2]
   rw [e];clear e
   go_enter Tryz.func265,Tryz.ntmps265
   go_wp2_with fail
   refine (ak _ h1 _).mono ?_;rintro e w' ⟨rfl,rfl⟩
   go_wp2_with fail
   refine (bM _ h2 _).mono ?_;rintro e w' ⟨rfl,rfl⟩;go_wp2
   go_ret
   exact ⟨rfl,rfl⟩
 ·have e:mulR x y= -1:=by simp [mulR,bF h1]
  rw [e];clear e
  go_enter Tryz.func265,Tryz.ntmps265
  go_wp2_with (go_at_call 133;refine (bM _ h1 _).mono ?_;rintro e w' ⟨rfl,rfl⟩)
  go_ret
  exact ⟨rfl,rfl⟩
def Bytes (w:World) (B:Nat) (A:Option Addr) (len:Nat):Prop :=
 0<len->∃ b off:Nat,A=some ⟨b,off,none⟩/\b<B/\∀ i,i<len->∃ v:Int,0<=v/\v<=255/\w.cell? ⟨b,off+i,none⟩=some (.int .u8 v)
theorem Bytes.au {w w':World} {B:Nat} {A:Option Addr} {len:Nat} (h:Bytes w B A len) (hk:∀ k,k<B->w'.heap[k]?=w.heap[k]?):Bytes w' B A len:=fun hl=>by
 obtain ⟨b,off,e,hb,hc⟩:=h hl;refine ⟨b,off,e,hb,fun i hi=> ?_⟩
 obtain ⟨v,v0,v1,hv⟩:=hc i hi
 exact ⟨v,v0,v1,(World.cell?_of_block (w:=w) (hk b hb)).trans hv⟩
theorem Bytes.mono {w:World} {B B':Nat} {A:Option Addr} {len:Nat} (h:Bytes w B A len) (hB:B<=B'):Bytes w B' A len:=fun hl=>by
 obtain ⟨b,off,e,hb,hc⟩:=h hl
 exact ⟨b,off,e,by omega,hc⟩
theorem Bytes.less {w:World} {B:Nat} {A:Option Addr} {len len':Nat} (h:Bytes w B A len) (hl:len'<=len):Bytes w B A len':=fun h0=>by
 obtain ⟨b,off,e,hb,hc⟩:=h (by omega)
 exact ⟨b,off,e,hb,fun i hi=>hc i (by omega)⟩
def Rd (w:World) (rb P:Nat):Prop:=∃ (A:Option Addr) (len cap p:Nat),w.heap[rb]?=some (.cells #[.slice A len cap,.int .i64 (p:Int)] 116 (0,0))/\p<=P/\len<=2000/\Bytes w rb A len
theorem Rd.lt {w:World} {rb P:Nat} (h:Rd w rb P):rb<w.heap.size:=by
 obtain ⟨A,len,cap,p,hb,_⟩:=h;rcases Nat.lt_or_ge rb w.heap.size with h | h
 ·exact h
 ·rw [Array.getElem?_eq_none h] at hb;cases hb
theorem Rd.mono {w:World} {rb P P':Nat} (h:Rd w rb P) (hP:P<=P'):Rd w rb P':=by
 obtain ⟨A,len,cap,p,hb,hp,hr⟩:=h
 exact ⟨A,len,cap,p,hb,by omega,hr⟩
theorem Rd.au {w w':World} {rb P:Nat} (h:Rd w rb P) (hk:∀ k,k<=rb->w'.heap[k]?=w.heap[k]?):Rd w' rb P:=by
 obtain ⟨A,len,cap,p,hb,hp,hl,hr⟩:=h
 exact ⟨A,len,cap,p,(hk rb (Nat.le_refl _)).trans hb,hp,hl,hr.au fun k h=>hk k (by omega)⟩
theorem Rd.below {w w':World} {rb P:Nat} (h:Rd w rb P) (hb:Below w.heap.size w w'):Rd w' rb P:=h.au fun k hk=>hb.block k (by have:=h.lt;omega)
theorem Rd.alloc {w:World} {rb P:Nat} (h:Rd w rb P) (o:Obj):Rd (w.alloc o) rb P:=h.au fun k hk=>Below.heap_alloc w o k (by have:=h.lt;omega)
theorem Rd.drew {w:World} {rb P:Nat} (h:Rd w rb P):Rd w.drew rb P:=h
theorem Rd.drewN {w:World} {rb P:Nat} (h:Rd w rb P) (n:Nat):Rd (w.drewN n) rb P:=h
theorem Rd.setCell {w:World} {rb P:Nat} (h:Rd w rb P) {a:Addr} (ha:rb<a.block) (u:Value):Rd (w.setCell a u) rb P:=h.au fun k hk=>Below.heap_setCell w a u k (by omega)
def aZ (rb:Nat) (w w':World):Prop:=w.grownBy w' (some rb)
theorem aZ.refl (rb:Nat) (w:World):aZ rb w w:=World.grownBy.refl w _
theorem aZ.trans {rb:Nat} {a b c:World} (h:aZ rb a b) (k:aZ rb b c):aZ rb a c :=
 ⟨k.os.trans h.os,k.tape.trans h.tape,k.output.trans h.output,Nat.le_trans h.size k.size,fun i hi hne=>(k.block i (Nat.lt_of_lt_of_le hi h.size) hne).trans (h.block i hi hne)⟩
theorem aZ.drew {rb:Nat} {a w:World} (h:aZ rb a w):aZ rb a w.drew:=⟨h.os,h.tape,h.output,h.size,h.block⟩
theorem aZ.drewN {rb:Nat} {a w:World} (h:aZ rb a w) (n:Nat):aZ rb a (w.drewN n):=⟨h.os,h.tape,h.output,h.size,h.block⟩
theorem aZ.alloc {rb:Nat} {a w:World} (h:aZ rb a w) (o:Obj):aZ rb a (w.alloc o) :=
 ⟨h.os,h.tape,h.output,Nat.le_trans h.size (by simp),fun i hi hne=>(Below.heap_alloc w o i (Nat.lt_of_lt_of_le hi h.size)).trans (h.block i hi hne)⟩
theorem aZ.setCell {rb:Nat} {a w:World} (h:aZ rb a w) {p:Addr} (hp:p.block=rb\/a.heap.size<=p.block) (u:Value):aZ rb a (w.setCell p u) :=
 ⟨h.os,h.tape,h.output,by simpa [World.setCell] using h.size,fun i hi hne=>(Below.heap_setCell w p u i (by
  rintro rfl;rcases hp with hp | hp
  ·exact hne (by rw [hp])
  ·omega)).trans (h.block i hi hne)⟩
theorem aZ.below {rb:Nat} {a b c:World} (h:aZ rb a b) (k:Below b.heap.size b c):aZ rb a c:=h.trans ⟨k.os,k.tape,k.output,k.size,fun i hi _=>k.block i hi⟩
theorem aZ.cell {rb:Nat} {w w':World} (h:aZ rb w w') {b o:Nat} (hb:b<w.heap.size) (hne:b≠rb):w'.cell? ⟨b,o,none⟩=w.cell? ⟨b,o,none⟩ :=
 World.cell?_of_block (w:=w) (a:=⟨b,o,none⟩) (h.block b hb (fun e=>hne (by injection e)))
theorem aZ.frozen {rb:Nat} {w w':World} (h:aZ rb w w') {b o:Nat} (hb:b<w.heap.size) (hne:b≠rb):w'.frozen? ⟨b,o,none⟩=w.frozen? ⟨b,o,none⟩ :=
 World.frozen?_of_block (w:=w) (a:=⟨b,o,none⟩) (h.block b hb (fun e=>hne (by injection e)))
theorem aZ.toBelow {rb B:Nat} {w w':World} (h:aZ rb w w') (h1:B<=rb) (h2:B<=w.heap.size):Below B w w' :=
 ⟨h.os,h.tape,h.output,h.size,fun k hk=>h.block k (by omega) (fun e=>by injection e;omega)⟩
theorem Rd.only {w w':World} {rb rb' P:Nat} (h:Rd w rb P) (ho:aZ rb' w w') (hr:rb<rb'):Rd w' rb P:=h.au fun k hk=>ho.block k (by have:=h.lt;omega) (fun e=>by injection e;omega)
theorem rm (a b:Nat) (ha:a<9223372036854775808) (hb:b<9223372036854775808):bits .xor .i64 (a:Int) (b:Int)=((a ^^^ b:Nat):Int):=by
 have hx:a ^^^ b<2 ^ 63:=Nat.xor_lt_two_pow (by omega) (by omega)
 show IntKind.i64.wrap ((BitVec.ofInt 64 (a:Int) ^^^ BitVec.ofInt 64 (b:Int)).toNat:Int)=_
 have ea:(BitVec.ofInt 64 (a:Int)).toNat=a:=by rw [BitVec.ofInt_natCast,BitVec.toNat_ofNat];exact Nat.mod_eq_of_lt (by omega)
 have eb:(BitVec.ofInt 64 (b:Int)).toNat=b:=by rw [BitVec.ofInt_natCast,BitVec.toNat_ofNat];exact Nat.mod_eq_of_lt (by omega)
 rw [BitVec.toNat_xor,ea,eb,IntKind.wrap_i64]
 omega
theorem EE (a b:Int) (h1:0<=a) (h2:a<9223372036854775808) (h3:0<=b) (h4:b<9223372036854775808):0<=bits .xor .i64 a b:=by
 obtain ⟨A,rfl⟩:=Int.eq_ofNat_of_zero_le h1;obtain ⟨B,rfl⟩:=Int.eq_ofNat_of_zero_le h3;rw [rm A B (by omega) (by omega)]
 omega
def Pk (w:World) (rb P:Nat) (n:Int) (e:Ending) (w':World):Prop:=∃ v:Int,e= .returned (.int .i64 v)/\0<=v/\(v<n\/v=0)/\Rd w' rb P/\aZ rb w w'
theorem DR {w:World} {rb P:Nat} {A:Option Addr} {len cap p:Nat} (hb:w.heap[rb]?=some (.cells #[.slice A len cap,.int .i64 (p:Int)] 116 (0,0))) (hp:p<=P) (hl:len<=2000) (hr:Bytes w rb A len) (k:Nat) :
  Rd ((w.setCell ⟨rb,1,none⟩ (.int .i64 ((p:Int)+1))).drewN k) rb (P+1)/\aZ rb w ((w.setCell ⟨rb,1,none⟩ (.int .i64 ((p:Int)+1))).drewN k):=by
 refine ⟨Rd.drewN ⟨A,len,cap,p+1,?_,by omega,hl,hr.au fun k hk=>Below.heap_setCell w _ _ k (by dsimp only;omega)⟩ k,aZ.drewN ((aZ.refl rb w).setCell (.inl rfl) _) k⟩
 simp [World.setCell,Array.getElem?_modify,hb]
theorem EK (rb P:Nat) (n:Int) (hn:n<1) (w:World) (h:Rd w rb P) (hP:P<1099511627776):Calls Tryz.prog 71 #[.pointer (some ⟨rb,0,none⟩),.int .i64 n] w (Pk w rb (P+1) n):=by
 obtain ⟨A,len,cap,p,hb,hp,hl,hr⟩:=h;have c0:w.cell? ⟨rb,0,none⟩=some (.slice A len cap):=by simp [World.cell?,hb]
 have c1:w.cell? ⟨rb,1,none⟩=some (.int .i64 (p:Int)):=by simp [World.cell?,hb]
 have f1:w.frozen? ⟨rb,1,none⟩=false:=by simp [World.frozen?,hb]
 have q1:(p:Int)<=1099511627776:=by omega
 have HS:=Lib.hid (DR hb hp hl hr 0);clear hb hr hp
 go_enter Tryz.func71,Tryz.ntmps71
 go_wp2
 go_ret
 exact ⟨0,rfl,by omega,.inr rfl,HS.out.1,HS.out.2⟩
theorem EA (rb P:Nat) (n:Int) (hn:1<=n) (w:World) (A:Option Addr) (cap p:Nat) (hb:w.heap[rb]?=some (.cells #[.slice A 0 cap,.int .i64 (p:Int)] 116 (0,0))) (hp:p<=P) (hr:Bytes w rb A 0) (hP:P<1099511627776) :
  Calls Tryz.prog 71 #[.pointer (some ⟨rb,0,none⟩),.int .i64 n] w (Pk w rb (P+1) n):=by
 have c0:w.cell? ⟨rb,0,none⟩=some (.slice A 0 cap):=by simp [World.cell?,hb]
 have c1:w.cell? ⟨rb,1,none⟩=some (.int .i64 (p:Int)):=by simp [World.cell?,hb]
 have f1:w.frozen? ⟨rb,1,none⟩=false:=by simp [World.frozen?,hb]
 have q1:(p:Int)<=1099511627776:=by omega
 have HS:=Lib.hid (DR hb hp (by omega) hr 0)
 clear hb hr hp
 go_enter Tryz.func71,Tryz.ntmps71
 go_wp2
 go_ret
 exact ⟨0,rfl,by omega,.inr rfl,HS.out.1,HS.out.2⟩
theorem EJ (rb P:Nat) (n:Int) (hn:1<=n) (w:World) (b off len cap p:Nat) (hb:w.heap[rb]?=some (.cells #[.slice (some ⟨b,off,none⟩) len cap,.int .i64 (p:Int)] 116 (0,0))) (hp:p<=P) (hl:len<=2000) (hr:Bytes w rb (some ⟨b,off,none⟩) len) (hP:P<1099511627776)
  (hlt:p<len):Calls Tryz.prog 71 #[.pointer (some ⟨rb,0,none⟩),.int .i64 n] w (Pk w rb (P+1) n):=by
 obtain ⟨b',off',e,hbr,hc⟩:=hr (by omega)
 injection e with e;injection e with e1 e2;subst e1 e2;obtain ⟨v,v0,v1,hv⟩:=hc p hlt;have c0:w.cell? ⟨rb,0,none⟩=some (.slice (some ⟨b,off,none⟩) len cap):=by simp [World.cell?,hb]
 have c1:w.cell? ⟨rb,1,none⟩=some (.int .i64 (p:Int)):=by simp [World.cell?,hb]
 have f1:w.frozen? ⟨rb,1,none⟩=false:=by simp [World.frozen?,hb]
 have q1:(p:Int)<=1099511627776:=by omega
 have hne:¬ b=rb:=by omega
 have hne':¬ rb=b:=by omega
 have hle:((len:Int) == 0)=false:=by simp;omega
 have HS:=Lib.hid (DR hb hp (by omega) hr 0)
 have m1:0<=v%n:=Int.emod_nonneg _ (by omega)
 have m2:v%n<n:=Int.emod_lt_of_pos _ (by omega)
 clear hb hr hp hc
 go_enter Tryz.func71,Tryz.ntmps71
 go_wp2
 go_ret
 exact ⟨_,rfl,m1,.inl m2,HS.out.1,HS.out.2⟩
theorem EU (rb P:Nat) (n:Int) (hn:1<=n) (w:World) (b off len cap p:Nat) (hb:w.heap[rb]?=some (.cells #[.slice (some ⟨b,off,none⟩) len cap,.int .i64 (p:Int)] 116 (0,0))) (hp:p<=P) (hl:len<=2000) (hr:Bytes w rb (some ⟨b,off,none⟩) len) (hP:P<1099511627776)
  (hge:len<=p) (hl0:0<len):Calls Tryz.prog 71 #[.pointer (some ⟨rb,0,none⟩),.int .i64 n] w (Pk w rb (P+1) n):=by
 obtain ⟨b',off',e,hbr,hc⟩:=hr hl0;injection e with e;injection e with e1 e2;subst e1 e2;have hk1:p%len<len:=Nat.mod_lt _ hl0;have hk2:(p*7+3)%len<len:=Nat.mod_lt _ hl0;obtain ⟨v1,v10,v11,hv1⟩:=hc _ hk1;obtain ⟨v2,v20,v21,hv2⟩:=hc _ hk2;have c0:w.cell? ⟨rb,0,none⟩=some (.slice (some ⟨b,off,none⟩) len cap):=by simp [World.cell?,hb]
 have c1:w.cell? ⟨rb,1,none⟩=some (.int .i64 (p:Int)):=by simp [World.cell?,hb]
 have f1:w.frozen? ⟨rb,1,none⟩=false:=by simp [World.frozen?,hb]
 have q1:(p:Int)<=1099511627776:=by omega
 have hne:¬ b=rb:=by omega
 have hne':¬ rb=b:=by omega
 have hle:((len:Int) == 0)=false:=by simp;omega
 have HS:=Lib.hid (DR hb hp (by omega) hr)
 have i3:((p:Int)*7+3)%(len:Int)=((p*7+3)%len:Nat):=by rw [Int.natCast_emod];congr 1
 have i0:0<=((p:Int)*7+3)%(len:Int):=by rw [i3];omega
 have i1:((p:Int)*7+3)%(len:Int)<(len:Int):=by rw [i3];omega
 have i2:(((p:Int)*7+3)%(len:Int)).toNat=(p*7+3)%len:=by rw [i3];omega
 clear i3;have d0:0<=(p:Int)/(len:Int):=Int.ediv_nonneg (by omega) (by omega)
 have d1:(p:Int)/(len:Int)<=(p:Int):=Int.ediv_le_self _ (by omega)
 have hx:=EE (v1*131+v2*1117+(p:Int)*29+(p:Int)/(len:Int)*53) ((v1*131+v2*1117+(p:Int)*29+(p:Int)/(len:Int)*53)/64) (by omega) (by omega) (by omega) (by omega)
 have m1:=Int.emod_nonneg (bits .xor .i64 (v1*131+v2*1117+(p:Int)*29+(p:Int)/(len:Int)*53) ((v1*131+v2*1117+(p:Int)*29+(p:Int)/(len:Int)*53)/64)) (b:=n) (by omega)
 have m2:=Int.emod_lt_of_pos (bits .xor .i64 (v1*131+v2*1117+(p:Int)*29+(p:Int)/(len:Int)*53) ((v1*131+v2*1117+(p:Int)*29+(p:Int)/(len:Int)*53)/64)) (b:=n) (by omega)
 clear hb hr hp hc
 go_enter Tryz.func71,Tryz.ntmps71
 go_upto_region 7 with fail
 go_quiet (fail)
 go_wp2
 go_ret
 exact ⟨_,rfl,m1,.inl m2,(HS.out _).1,(HS.out _).2⟩
theorem ct (rb P:Nat) (n:Int) (w:World) (h:Rd w rb P) (hP:P<1099511627776):Calls Tryz.prog 71 #[.pointer (some ⟨rb,0,none⟩),.int .i64 n] w (Pk w rb (P+1) n):=by
 by_cases hn:n<1
 ·exact EK rb P n hn w h hP
 ·obtain ⟨A,len,cap,p,hb,hp,hl,hr⟩:=h;rcases Nat.eq_zero_or_pos len with h0 | h0
  ·subst h0
   exact EA rb P n (by omega) w A cap p hb hp hr hP
  ·obtain ⟨b,off,rfl,_⟩:=hr h0
   by_cases hlt:p<len
   ·exact EJ rb P n (by omega) w b off len cap p hb hp hl hr hP hlt
   ·exact EU rb P n (by omega) w b off len cap p hb hp hl hr hP (by omega) h0
def Od (w:World) (rb P:Nat) (e:Ending) (w':World):Prop:=∃ v:Bool,e= .returned (.bool v)/\Rd w' rb P/\aZ rb w w'
theorem EG (rb P:Nat) (n:Int) (hn:0<=n/\n<=1000000) (w:World) (h:Rd w rb P) (hP:P<1099511627776):Calls Tryz.prog 72 #[.pointer (some ⟨rb,0,none⟩),.int .i64 n] w (Od w rb (P+1)):=by
 obtain ⟨n0,n1⟩:=hn
 by_cases hn:0<n
 ·go_enter Tryz.func72,Tryz.ntmps72
  go_wp2_with fail
  refine (ct rb P n w h hP).mono ?_;rintro e w1 ⟨v,rfl,v0,v1,hr,ho⟩;clear h;have HR:=Lib.hid hr;have HO:=Lib.hid ho;clear hr ho v1
  cases hv:v == n-1
  all_goals
   go_wp2
   go_ret
   exact ⟨_,rfl,HR.out,HO.out⟩
 ·have h':=Lib.hid (h.mono (Nat.le_succ P));clear h
  go_enter Tryz.func72,Tryz.ntmps72
  go_wp2
  go_ret
  exact ⟨_,rfl,h'.out,aZ.refl _ _⟩
def Opn (w:World) (e:Ending) (w':World):Prop:=e= .returned (.pointer (some ⟨w.heap.size,0,none⟩))/\Rd w' w.heap.size 0/\Below w.heap.size w w'/\w.heap.size<w'.heap.size
theorem EM (A:Option Addr) (len cap:Nat) (w:World) (hl:len<=cap) (hm:cap<=maxLen) (hr:Bytes w w.heap.size A len) (h0:A=none->cap=0):Calls Tryz.prog 31 #[.slice A len cap] w (Opn w):=by
 unfold maxLen at hm
 by_cases h:2000<len
 ·have HB:=Lib.hid (hr.less (len':=2000) (by omega))
  obtain ⟨b,off,rfl,_⟩:=hr (by omega)
  clear hr h0;have hcap:¬ cap<2000:=by omega
  go_enter Tryz.func31,Tryz.ntmps31
  go_wp2
  go_ret
  refine ⟨rfl,⟨_,2000,cap,0,heap_alloc_new w _,by omega,by omega,HB.out.au fun k hk=>Below.heap_alloc w _ k hk⟩,(Below.refl _ _).alloc (Nat.le_refl _) _,by simp⟩
 ·have HB:=Lib.hid hr;clear hr h0
  go_enter Tryz.func31,Tryz.ntmps31
  go_wp2
  go_ret
  refine ⟨rfl,⟨_,len,cap,0,heap_alloc_new w _,by omega,by omega,HB.out.au fun k hk=>Below.heap_alloc w _ k hk⟩,(Below.refl _ _).alloc (Nat.le_refl _) _,by simp⟩
section
def Blk (w:World) (g:Nat) (t:TypeId) (cs:Array Value):Prop:=w.heap[g]?=some (.cells cs t (0,0))
section
variable {w w':World} {g:Nat} {t:TypeId} {cs:Array Value}
theorem Blk.lt (h:Blk w g t cs):g<w.heap.size:=by
 rcases Nat.lt_or_ge g w.heap.size with hlt | hge
 ·exact hlt
 ·unfold Blk at h;rw [Array.getElem?_eq_none hge] at h;cases h
theorem Blk.cell (h:Blk w g t cs) (i:Nat):w.cell? ⟨g,i,none⟩=cs[i]?:=cell_of_row w g i cs t (0,0) h
theorem Blk.frozen (h:Blk w g t cs) (i:Nat):w.frozen? ⟨g,i,none⟩=false:=by
 unfold Blk at h
 simp [World.frozen?,h]
theorem Blk.new (w:World) (t:TypeId) (cs:Array Value):Blk (w.alloc (.cells cs t)) w.heap.size t cs:=heap_alloc_new w _
theorem Blk.drew (h:Blk w g t cs):Blk w.drew g t cs:=h
theorem Blk.drewN (h:Blk w g t cs) (n:Nat):Blk (w.drewN n) g t cs:=h
theorem Blk.alloc (h:Blk w g t cs) (o:Obj):Blk (w.alloc o) g t cs:=(Below.heap_alloc w o g h.lt).trans h
theorem Blk.dc (h:Blk w g t cs) (i:Nat) (u:Value):Blk (w.setCell ⟨g,i,none⟩ u) g t (cs.setIfInBounds i u):=by
 unfold Blk at h ⊢
 simp [World.setCell,Array.getElem?_modify,h]
theorem Blk.far (h:Blk w g t cs) {p:Addr} (hp:g≠p.block) (u:Value):Blk (w.setCell p u) g t cs:=(Below.heap_setCell w p u g hp).trans h
theorem Blk.below {B:Nat} (h:Blk w g t cs) (hb:Below B w w') (hg:g<B):Blk w' g t cs:=(hb.block g hg).trans h
theorem Blk.aa (h:Blk w g t cs) (hb:Below w.heap.size w w'):Blk w' g t cs:=h.below hb h.lt
theorem Blk.only {rb:Nat} (h:Blk w g t cs) (ho:aZ rb w w') (hne:g≠rb):Blk w' g t cs:=(ho.block g h.lt (fun e=>hne (by injection e))).trans h
end
theorem aZ.eW {rb:Nat} {a b:World} (k:Below a.heap.size a b):aZ rb a b:=⟨k.os,k.tape,k.output,k.size,fun i hi _=>k.block i hi⟩
theorem tM {W w1:World} {B:Nat} (hb:Below B W w1):(∀ b o,b<B->w1.cell? ⟨b,o,none⟩=W.cell? ⟨b,o,none⟩)/\(∀ b o,b<B->w1.frozen? ⟨b,o,none⟩=W.frozen? ⟨b,o,none⟩) :=
 ⟨fun b o h=>hb.cell (p:=⟨b,o,none⟩) h,fun b o h=>hb.frozen (p:=⟨b,o,none⟩) h⟩
end
structure Wd (S:World->Prop) where
 w:World
 h:S w
theorem aS {P:Program} {id:Nat} {Q:Exit->Act->World->Prop} {a:Act} {w:World} {l:List Oper} (S:World->Prop) (hm:P.follows .mixedOrders=true) (hB:Region.lexB .any l.toArray=true) (hC:S w.drew)
  (h:Nonempty (Wd S)->wpQuiet P l.toArray (fun w'=>∃ x:Wd S,w'=x.w) (fun a'=>∀ w',(∃ x:Wd S,w'=x.w)->Q .normal a' w') l a):(Code.region id l.toArray true).wp P Q a w :=
 wp_region_quiet (C:=fun w'=>∃ x:Wd S,w'=x.w) hm hB ⟨⟨w.drew,hC⟩,rfl⟩ (by simpa using h ⟨⟨w.drew,hC⟩⟩)
theorem d_ {P:Program} {B:Nat} {U:World} {f:FuncId} {args:Array Value} {v:Value} (x:Wd (fun w'=>Below B U w')) (hB:B<=U.heap.size) (h:Calls P f args x.w fun e w'=>e= .returned v/\Below x.w.heap.size x.w w') :
  Calls P f args x.w fun e w''=>e= .returned v/\∃ y:Wd (fun w'=>Below B U w'),w''=y.w :=
 h.mono fun _ w' ⟨he,hb⟩=>⟨he,⟨w',x.h.trans (hb.mono (Nat.le_trans hB x.h.size))⟩,rfl⟩
end Go.Proofs.YtjciicheoghcdaaGreatDoor
