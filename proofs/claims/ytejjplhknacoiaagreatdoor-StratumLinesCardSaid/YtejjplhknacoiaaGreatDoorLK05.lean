/- Contracts that the laws lean on: Log2, Log3, Del, Count, Log4. -/
import Derived.Test.YtejjplhknacoiaaGreatDoorLK04
import Derived.Deep.RegionHeld3
set_option maxRecDepth 100000
set_option maxHeartbeats 4000000
section
namespace Go.Proofs.YtejjplhknacoiaaGreatDoor
open Go.RowKit Go.Proofs
theorem CheckTrace_void (a b d e f g h i j:Int) (w:World):
 Calls Tryz.prog 18 #[.agg #[.int .i64 a,.int .i64 b,.int .u8 4,.int .i64 d,.int .i64 e,.int .i64 f,.int .i64 g,.int .i64 h,.int .i64 i,.int .i64 j]] w
  fun e' w'=>e' = .returned (.int .i64 (checkTrace ⟨a,b,4,d,e,f,g,h,i,j⟩))∧Below w.heap.size w w':=by
 go_enter Tryz.func18,Tryz.ntmps18
 go_wp2_with (go_at_call 41;refine (in_any _ _ _ _).mono ?_;rintro e w' ⟨rfl,rfl⟩)
 all_goals go_ret
 all_goals refine ⟨?_,?_⟩
 all_goals first|((repeat' (first|(with_reducible assumption)|(with_reducible exact Below.refl _ _)|(with_reducible refine Below.drew ?_)|(with_reducible refine below_drewN' ?_ _)|(with_reducible refine Below.alloc ?_ ?_ _)|(with_reducible refine Below.setCell ?_ ?_ _)|(with_reducible refine below_step (by assumption) ?_ ?_)))<;>first|(simp;done)|(simp;omega)|omega)|(simp_all [checkTrace,okT,yT];done)|(simp_all [checkTrace,okT,yT];intros;omega)
theorem CheckTrace_above (a b d e f g h i j:Int) (w:World):
 Calls Tryz.prog 18 #[.agg #[.int .i64 a,.int .i64 b,.int .u8 1,.int .i64 d,.int .i64 e,.int .i64 f,.int .i64 g,.int .i64 h,.int .i64 i,.int .i64 j]] w
  fun e' w'=>e' = .returned (.int .i64 (checkTrace ⟨a,b,1,d,e,f,g,h,i,j⟩))∧Below w.heap.size w w':=by
 go_enter Tryz.func18,Tryz.ntmps18
 go_wp2_with (first
  | (go_at_call 41;refine (in_any _ _ _ _).mono ?_;rintro e w' ⟨rfl,rfl⟩)
  | (go_at_call 43;refine (place_any _ _ _ _ _ _ _ _ _ _ _).mono ?_;rintro e wP ⟨rfl,hbP⟩;obtain ⟨hccP,hffP⟩:=bcell hbP;have hzP:=hbP.size;(try simp only [World.size_alloc,World.size_drew] at hzP);have:w.heap.size<wP.heap.size:=(by omega);have:w.heap.size+1<wP.heap.size:=(by omega))
  | (go_at_call 44;refine (lower_any _ _ _ _ _ _ _ _ _ _ _).mono ?_;rintro e wL ⟨rfl,hbL⟩;obtain ⟨hccL,hffL⟩:=bcell hbL;have hzL:=hbL.size;(try simp only [World.size_setCell] at hzL);have:w.heap.size<wL.heap.size:=(by omega);have:w.heap.size+1<wL.heap.size:=(by omega))
  | (go_at_call 42;refine (isPlace_any _ _ _).mono ?_;rintro e wI ⟨rfl,hbI⟩;obtain ⟨hccI,hffI⟩:=bcell hbI;have hzI:=hbI.size;(try simp only [World.size_alloc,World.size_setCell,World.size_drew,World.heap_drewN] at hzI);have:w.heap.size<wI.heap.size:=(by omega);have:w.heap.size+1<wI.heap.size:=(by omega))
  | go_region)
 all_goals go_ret
 all_goals refine ⟨?_,?_⟩
 all_goals first|((repeat' (first|(with_reducible assumption)|(with_reducible exact Below.refl _ _)|(with_reducible refine Below.drew ?_)|(with_reducible refine below_drewN' ?_ _)|(with_reducible refine Below.alloc ?_ ?_ _)|(with_reducible refine Below.setCell ?_ ?_ _)|(with_reducible refine below_step (by assumption) ?_ ?_)))<;>first|(simp;done)|(simp;omega)|omega)|(simp_all [checkTrace,okT,yT];done)|(simp_all [checkTrace,okT,yT];intros;omega)
theorem CheckTrace_dated (a b d e f g h i j:Int) (w:World):
 Calls Tryz.prog 18 #[.agg #[.int .i64 a,.int .i64 b,.int .u8 2,.int .i64 d,.int .i64 e,.int .i64 f,.int .i64 g,.int .i64 h,.int .i64 i,.int .i64 j]] w
  fun e' w'=>e' = .returned (.int .i64 (checkTrace ⟨a,b,2,d,e,f,g,h,i,j⟩))∧Below w.heap.size w w':=by
 go_enter Tryz.func18,Tryz.ntmps18
 go_wp2_with (first
  | (go_at_call 41;refine (in_any _ _ _ _).mono ?_;rintro e w' ⟨rfl,rfl⟩)
  | (go_at_call 43;refine (place_any _ _ _ _ _ _ _ _ _ _ _).mono ?_;rintro e wP ⟨rfl,hbP⟩;obtain ⟨hccP,hffP⟩:=bcell hbP;have hzP:=hbP.size;(try simp only [World.size_alloc,World.size_drew] at hzP);have:w.heap.size<wP.heap.size:=(by omega);have:w.heap.size+1<wP.heap.size:=(by omega))
  | (go_at_call 44;refine (lower_any _ _ _ _ _ _ _ _ _ _ _).mono ?_;rintro e wL ⟨rfl,hbL⟩;obtain ⟨hccL,hffL⟩:=bcell hbL;have hzL:=hbL.size;(try simp only [World.size_alloc,World.size_setCell,World.size_drew,World.heap_drewN] at hzL);have:w.heap.size<wL.heap.size:=(by omega);have:w.heap.size+1<wL.heap.size:=(by omega))
  | (go_at_call 42;refine (isPlace_any _ _ _).mono ?_;rintro e wI ⟨rfl,hbI⟩;obtain ⟨hccI,hffI⟩:=bcell hbI;have hzI:=hbI.size;(try simp only [World.size_alloc,World.size_setCell,World.size_drew,World.heap_drewN] at hzI);have:w.heap.size<wI.heap.size:=(by omega);have:w.heap.size+1<wI.heap.size:=(by omega))
  | go_region)
 all_goals go_ret
 all_goals refine ⟨?_,?_⟩
 all_goals first|((repeat' (first|(with_reducible assumption)|(with_reducible exact Below.refl _ _)|(with_reducible refine Below.drew ?_)|(with_reducible refine below_drewN' ?_ _)|(with_reducible refine Below.alloc ?_ ?_ _)|(with_reducible refine Below.setCell ?_ ?_ _)|(with_reducible refine below_step (by assumption) ?_ ?_)))<;>first|(simp;done)|(simp;omega)|omega)|(simp_all [checkTrace,okT,yT];done)|(simp_all [checkTrace,okT,yT];intros;omega)
theorem CheckTrace_moved (a b d e f g h i j:Int) (w:World):
 Calls Tryz.prog 18 #[.agg #[.int .i64 a,.int .i64 b,.int .u8 3,.int .i64 d,.int .i64 e,.int .i64 f,.int .i64 g,.int .i64 h,.int .i64 i,.int .i64 j]] w
  fun e' w'=>e' = .returned (.int .i64 (checkTrace ⟨a,b,3,d,e,f,g,h,i,j⟩))∧Below w.heap.size w w':=by
 go_enter Tryz.func18,Tryz.ntmps18
 go_wp2_with (first
  | (go_at_call 41;refine (in_any _ _ _ _).mono ?_;rintro e w' ⟨rfl,rfl⟩)
  | (go_at_call 43;refine (place_any _ _ _ _ _ _ _ _ _ _ _).mono ?_;rintro e wP ⟨rfl,hbP⟩;obtain ⟨hccP,hffP⟩:=bcell hbP;have hzP:=hbP.size;(try simp only [World.size_alloc,World.size_drew] at hzP);have:w.heap.size<wP.heap.size:=(by omega);have:w.heap.size+1<wP.heap.size:=(by omega))
  | (go_at_call 44;refine (lower_any _ _ _ _ _ _ _ _ _ _ _).mono ?_;rintro e wL ⟨rfl,hbL⟩;obtain ⟨hccL,hffL⟩:=bcell hbL;have hzL:=hbL.size;(try simp only [World.size_alloc,World.size_setCell,World.size_drew,World.heap_drewN] at hzL);have:w.heap.size<wL.heap.size:=(by omega);have:w.heap.size+1<wL.heap.size:=(by omega))
  | (go_at_call 42;refine (isPlace_any _ _ _).mono ?_;rintro e wI ⟨rfl,hbI⟩;obtain ⟨hccI,hffI⟩:=bcell hbI;have hzI:=hbI.size;(try simp only [World.size_alloc,World.size_setCell,World.size_drew,World.heap_drewN] at hzI);have:w.heap.size<wI.heap.size:=(by omega);have:w.heap.size+1<wI.heap.size:=(by omega))
  | go_region)
 all_goals go_ret
 all_goals refine ⟨?_,?_⟩
 all_goals first|((repeat' (first|(with_reducible assumption)|(with_reducible exact Below.refl _ _)|(with_reducible refine Below.drew ?_)|(with_reducible refine below_drewN' ?_ _)|(with_reducible refine Below.alloc ?_ ?_ _)|(with_reducible refine Below.setCell ?_ ?_ _)|(with_reducible refine below_step (by assumption) ?_ ?_)))<;>first|(simp;done)|(simp;omega)|omega)|(simp_all [checkTrace,okT,yT];done)|(simp_all [checkTrace,okT,yT];intros;omega)
theorem CheckTrace_other (a b c d e f g h i j:Int) (w:World) (h1:c≠1) (h2:c≠2) (h3:c≠3) (h4:c≠4):
 Calls Tryz.prog 18 #[.agg #[.int .i64 a,.int .i64 b,.int .u8 c,.int .i64 d,.int .i64 e,.int .i64 f,.int .i64 g,.int .i64 h,.int .i64 i,.int .i64 j]] w
  fun e' w'=>e' = .returned (.int .i64 (checkTrace ⟨a,b,c,d,e,f,g,h,i,j⟩))∧Below w.heap.size w w':=by
 go_enter Tryz.func18,Tryz.ntmps18
 go_wp2_with (first
  | (go_at_call 41;refine (in_any _ _ _ _).mono ?_;rintro e w' ⟨rfl,rfl⟩)
  | (go_at_call 43;refine (place_any _ _ _ _ _ _ _ _ _ _ _).mono ?_;rintro e wP ⟨rfl,hbP⟩;obtain ⟨hccP,hffP⟩:=bcell hbP;have hzP:=hbP.size;(try simp only [World.size_alloc,World.size_drew] at hzP);have:w.heap.size<wP.heap.size:=(by omega);have:w.heap.size+1<wP.heap.size:=(by omega))
  | (go_at_call 44;refine (lower_any _ _ _ _ _ _ _ _ _ _ _).mono ?_;rintro e wL ⟨rfl,hbL⟩;obtain ⟨hccL,hffL⟩:=bcell hbL;have hzL:=hbL.size;(try simp only [World.size_alloc,World.size_setCell,World.size_drew,World.heap_drewN] at hzL);have:w.heap.size<wL.heap.size:=(by omega);have:w.heap.size+1<wL.heap.size:=(by omega))
  | (go_at_call 42;refine (isPlace_any _ _ _).mono ?_;rintro e wI ⟨rfl,hbI⟩;obtain ⟨hccI,hffI⟩:=bcell hbI;have hzI:=hbI.size;(try simp only [World.size_alloc,World.size_setCell,World.size_drew,World.heap_drewN] at hzI);have:w.heap.size<wI.heap.size:=(by omega);have:w.heap.size+1<wI.heap.size:=(by omega))
  | go_region)
 all_goals go_ret
 all_goals refine ⟨?_,?_⟩
 all_goals first|((repeat' (first|(with_reducible assumption)|(with_reducible exact Below.refl _ _)|(with_reducible refine Below.drew ?_)|(with_reducible refine below_drewN' ?_ _)|(with_reducible refine Below.alloc ?_ ?_ _)|(with_reducible refine Below.setCell ?_ ?_ _)|(with_reducible refine below_step (by assumption) ?_ ?_)))<;>first|(simp;done)|(simp;omega)|omega)|(simp_all [checkTrace,okT,yT];done)|(simp_all [checkTrace,okT,yT];intros;omega)
theorem CheckTrace_any (a b c d e f g h i j:Int) (w:World):
 Calls Tryz.prog 18 #[.agg #[.int .i64 a,.int .i64 b,.int .u8 c,.int .i64 d,.int .i64 e,.int .i64 f,.int .i64 g,.int .i64 h,.int .i64 i,.int .i64 j]] w
  fun e' w'=>e' = .returned (.int .i64 (checkTrace ⟨a,b,c,d,e,f,g,h,i,j⟩))∧Below w.heap.size w w':=by
 by_cases h1:c=1
 · subst h1;exact CheckTrace_above a b d e f g h i j w
 by_cases h2:c=2
 · subst h2;exact CheckTrace_dated a b d e f g h i j w
 by_cases h3:c=3
 · subst h3;exact CheckTrace_moved a b d e f g h i j w
 by_cases h4:c=4
 · subst h4;exact CheckTrace_void a b d e f g h i j w
 exact CheckTrace_other a b c d e f g h i j w h1 h2 h3 h4
open Go.Shelf
theorem some_any (g:Nat) (lb:Array Value) (eg:∀ args w,(callFunc g args).run Tryz.prog w = .ok (.enter g args) w) (p:Trace→Bool) (A:Option Addr) (n c:Nat) (l:List Trace) (w:World)
 (hl:Rd encTrace 10 w A n c l) (hp:PredB Tryz.prog g lb (fun x=> .agg (encTrace x).toArray) p w):
 Calls Tryz.prog 88 #[.slice A n c,.func (.func g) #[] lb] w fun e w'=>e = .returned (.bool (l.any p))∧Below w.heap.size w w':=by
 go_enter Tryz.func88,Tryz.ntmps88
 go_wp2_with (go_at_call 132;refine (ContainsFunc_Trace g lb eg p A n c l _ hl hp).mono ?_;rintro e w' ⟨rfl,hb'⟩)
 go_ret
 exact ⟨rfl,hb'⟩
def p1 (x y:Trace):Bool:=decide (y.id=x.id)
def p2 (x y:Trace):Bool:=decide (y.id=x.void)&&decide (y.kind≠4)
def p3 (x y:Trace):Bool:=decide (y.kind=4)&&decide (y.void=x.void)
theorem pred1 (x:Trace) (bx:Nat) (w:World) (hlt:bx<w.heap.size) (h0:w.cell? ⟨bx,0,none⟩=some (.int .i64 x.id)):
 PredB Tryz.prog 127 #[.pointer (some ⟨bx,0,none⟩)] (fun x=> .agg (encTrace x).toArray) (p1 x) w:=by
 intro W y hb
 have c0:W.cell? ⟨bx,0,none⟩=some (.int .i64 x.id):=(hb.cell (p:=⟨bx,0,none⟩) hlt).trans h0
 have hlt2:bx<W.heap.size:=by have:=hb.size;omega
 simp only [encTrace,List.append_toArray,List.cons_append,List.nil_append]
 go_enter Tryz.func127,Tryz.ntmps127
 go_wp2
 go_ret
 exact ⟨by simp [p1];rfl,hb.alloc hb.size _⟩
theorem pred2 (x:Trace) (bx:Nat) (w:World) (hlt:bx<w.heap.size) (h0:w.cell? ⟨bx,9,none⟩=some (.int .i64 x.void)):
 PredB Tryz.prog 128 #[.pointer (some ⟨bx,0,none⟩)] (fun x=> .agg (encTrace x).toArray) (p2 x) w:=by
 intro W y hb
 have c0:W.cell? ⟨bx,9,none⟩=some (.int .i64 x.void):=(hb.cell (p:=⟨bx,9,none⟩) hlt).trans h0
 have hlt2:bx<W.heap.size:=by have:=hb.size;omega
 simp only [encTrace,List.append_toArray,List.cons_append,List.nil_append]
 by_cases hq:y.id=x.void
 all_goals
  go_enter Tryz.func128,Tryz.ntmps128
  go_wp2
  go_ret
  exact ⟨by simp [p2,hq];try rfl,hb.alloc hb.size _⟩
theorem pred3 (x:Trace) (bx:Nat) (w:World) (hlt:bx<w.heap.size) (h0:w.cell? ⟨bx,9,none⟩=some (.int .i64 x.void)):
 PredB Tryz.prog 129 #[.pointer (some ⟨bx,0,none⟩)] (fun x=> .agg (encTrace x).toArray) (p3 x) w:=by
 intro W y hb
 have c0:W.cell? ⟨bx,9,none⟩=some (.int .i64 x.void):=(hb.cell (p:=⟨bx,9,none⟩) hlt).trans h0
 have hlt2:bx<W.heap.size:=by have:=hb.size;omega
 simp only [encTrace,List.append_toArray,List.cons_append,List.nil_append]
 by_cases hq:y.kind=4
 all_goals
  go_enter Tryz.func129,Tryz.ntmps129
  go_wp2
  go_ret
  exact ⟨by simp [p3,hq];try rfl,hb.alloc hb.size _⟩
def lastLater (l:List Trace) (x:Trace):Bool:=match l.getLast? with|some y=>decide (x.known<y.known)|none=>false
def follows (l:List Trace) (x:Trace):Int:=
 if 140≤l.length then 2 else if checkTrace x≠0 then 1 else if l.any (p1 x) then 6 else if lastLater l x then 7
 else if x.kind≠4 then 0 else if !(l.any (p2 x)) then 5 else if l.any (p3 x) then 6 else 0
theorem ret_int {k:IntKind} {a b:Int} (h:a=b):Ending.returned (.int k a) = .returned (.int k b):=by rw [h]
section
variable {l:List Trace} {x z:Trace} {n:Nat}
theorem fo1 (hl:l.length=n) (h:140≤(n:Int)):(2:Int)=follows l x:=by unfold follows;rw [if_pos (by omega)]
theorem fo2 (hl:l.length=n) (h:(n:Int)<140) (h2:(checkTrace x != 0)=true):(1:Int)=follows l x:=by unfold follows;rw [if_neg (by omega),if_pos (by simpa using h2)]
theorem fo3 (hl:l.length=n) (h:(n:Int)<140) (h2:(checkTrace x != 0)=false) (h3:l.any (p1 x)=true):(6:Int)=follows l x:=by
 unfold follows;rw [if_neg (by omega),if_neg (by simpa using h2),if_pos h3]
theorem fo4 (hl:l.length=n) (h:(n:Int)<140) (h2:(checkTrace x != 0)=false) (h3:l.any (p1 x)=false) (h4:lastLater l x=true):(7:Int)=follows l x:=by
 unfold follows;rw [if_neg (by omega),if_neg (by simpa using h2),if_neg (by simp [h3]),if_pos h4]
theorem fo5 (hl:l.length=n) (h:(n:Int)<140) (h2:(checkTrace x != 0)=false) (h3:l.any (p1 x)=false) (h4:lastLater l x=false) (h5:(x.kind != 4)=true):(0:Int)=follows l x:=by
 unfold follows;rw [if_neg (by omega),if_neg (by simpa using h2),if_neg (by simp [h3]),if_neg (by simp [h4]),if_pos (by simpa using h5)]
theorem fo6 (hl:l.length=n) (h:(n:Int)<140) (h2:(checkTrace x != 0)=false) (h3:l.any (p1 x)=false) (h4:lastLater l x=false) (h5:(x.kind != 4)=false) (h6:(!l.any (p2 x))=true):(5:Int)=follows l x:=by
 unfold follows;rw [if_neg (by omega),if_neg (by simpa using h2),if_neg (by simp [h3]),if_neg (by simp [h4]),if_neg (by simpa using h5),if_pos h6]
theorem fo7 (hl:l.length=n) (h:(n:Int)<140) (h2:(checkTrace x != 0)=false) (h3:l.any (p1 x)=false) (h4:lastLater l x=false) (h5:(x.kind != 4)=false) (h6:(!l.any (p2 x))=false) (h7:l.any (p3 x)=true):(6:Int)=follows l x:=by
 unfold follows;rw [if_neg (by omega),if_neg (by simpa using h2),if_neg (by simp [h3]),if_neg (by simp [h4]),if_neg (by simpa using h5),if_neg (by rw [h6];decide),if_pos h7]
theorem fo8 (hl:l.length=n) (h:(n:Int)<140) (h2:(checkTrace x != 0)=false) (h3:l.any (p1 x)=false) (h4:lastLater l x=false) (h5:(x.kind != 4)=false) (h6:(!l.any (p2 x))=false) (h7:l.any (p3 x)=false):(0:Int)=follows l x:=by
 unfold follows;rw [if_neg (by omega),if_neg (by simpa using h2),if_neg (by simp [h3]),if_neg (by simp [h4]),if_neg (by simpa using h5),if_neg (by rw [h6];decide),if_neg (by simp [h7])]
theorem lastLater_yes (hz:l.getLast? = some z) (h:x.known<z.known):lastLater l x=true:=by simp [lastLater,hz,h]
theorem lastLater_no (hz:l.getLast? = some z) (h:z.known≤x.known):lastLater l x=false:=by simp [lastLater,hz];omega
theorem lastLater_nil:lastLater [] x=false:=rfl
end
theorem ent1:∀ args w,(callFunc 127 args).run Tryz.prog w = .ok (.enter 127 args) w:=enters_of Tryz.func127 (by kernel_rfl) rfl
theorem ent2:∀ args w,(callFunc 128 args).run Tryz.prog w = .ok (.enter 128 args) w:=enters_of Tryz.func128 (by kernel_rfl) rfl
theorem ent3:∀ args w,(callFunc 129 args).run Tryz.prog w = .ok (.enter 129 args) w:=enters_of Tryz.func129 (by kernel_rfl) rfl
theorem follows_cons (b off n c:Nat) (l:List Trace) (xa xb xc xd xe xf xg xh xi xj:Int) (w:World) (hl:Rd encTrace 10 w (some ⟨b,off,none⟩) n c l) (hn:0<n) (z:Trace) (hbw:b<w.heap.size) (hz:l.getLast? = some z) (hzc:w.cell? ⟨b,off+(n-1) * 10+1,none⟩=some (.int .i64 z.known)):
 Calls Tryz.prog 82 #[.slice (some ⟨b,off,none⟩) n c,.agg #[.int .i64 xa,.int .i64 xb,.int .u8 xc,.int .i64 xd,.int .i64 xe,.int .i64 xf,.int .i64 xg,.int .i64 xh,.int .i64 xi,.int .i64 xj]] w
  fun e' w'=>e' = .returned (.int .i64 (follows l ⟨xa,xb,xc,xd,xe,xf,xg,xh,xi,xj⟩))∧Below w.heap.size w w':=by
 have hbig:=hl.big
 go_enter Tryz.func82,Tryz.ntmps82
 go_wp2_with (first
  | (go_at_call 18;refine (CheckTrace_any _ _ _ _ _ _ _ _ _ _ _).mono ?_;rintro e wC ⟨rfl,hbC⟩;obtain ⟨hccC,hffC⟩:=bcell hbC;have hzC:=hbC.size;(try simp only [World.size_alloc] at hzC);have:b<wC.heap.size:=(by omega);have:w.heap.size<wC.heap.size:=(by omega);have hlC:=(hl.alloc _).below hbC (by simp);have hpC:=pred1 ⟨xa,xb,xc,xd,xe,xf,xg,xh,xi,xj⟩ w.heap.size wC (by omega) (by rw [hccC _ _ (by first|omega|(simp;done)|(simp;omega))];simp))
  | (go_at_call 88;(with_reducible refine (some_any _ _ ent1 _ _ _ _ _ _ hlC hpC).mono ?_);rintro e wS ⟨rfl,hbS⟩;obtain ⟨hccS,hffS⟩:=bcell hbS;have hzS:=hbS.size;(try simp only [World.size_alloc,World.size_setCell,World.size_drew,World.heap_drewN] at hzS);have:b<wS.heap.size:=(by omega);have:w.heap.size<wS.heap.size:=(by omega);have hlS:=hlC.below hbS (Nat.le_refl _);have hpS:=pred2 ⟨xa,xb,xc,xd,xe,xf,xg,xh,xi,xj⟩ w.heap.size wS (by omega) (by rw [hccS _ _ (by first|omega|(simp;done)|(simp;omega)),hccC _ _ (by first|omega|(simp;done)|(simp;omega))];simp);clear hpC)
  | (go_at_call 88;(with_reducible refine (some_any _ _ ent2 _ _ _ _ _ _ (hlS.drewN _) (hpS.drewN _)).mono ?_);rintro e wT ⟨rfl,hbT⟩;obtain ⟨hccT,hffT⟩:=bcell hbT;have hzT:=hbT.size;(try simp only [World.heap_drewN] at hzT);have:b<wT.heap.size:=(by omega);have:w.heap.size<wT.heap.size:=(by omega);have hlT:=(hlS.drewN _).below hbT (Nat.le_refl _);have hpT:=pred3 ⟨xa,xb,xc,xd,xe,xf,xg,xh,xi,xj⟩ w.heap.size wT (by omega) (by rw [hccT _ _ (by first|omega|(simp;done)|(simp;omega)),World.cell?_drewN,hccS _ _ (by first|omega|(simp;done)|(simp;omega)),hccC _ _ (by first|omega|(simp;done)|(simp;omega))];simp);clear hpS)
  | (go_at_call 88;(with_reducible refine (some_any _ _ ent3 _ _ _ _ _ _ hlT hpT).mono ?_);rintro e wU ⟨rfl,hbU⟩;obtain ⟨hccU,hffU⟩:=bcell hbU;have hzU:=hbU.size;(try simp only [World.size_alloc,World.size_setCell,World.size_drew,World.heap_drewN] at hzU);have:b<wU.heap.size:=(by omega);have:w.heap.size<wU.heap.size:=(by omega);clear hpT)
  | go_quiet (fail))
 all_goals go_ret
 all_goals refine ⟨ret_int ?_,?_⟩
 all_goals first|((repeat' (first|(with_reducible assumption)|(with_reducible exact Below.refl _ _)|(with_reducible refine Below.drew ?_)|(with_reducible refine below_drewN' ?_ _)|(with_reducible refine Below.alloc ?_ ?_ _)|(with_reducible refine Below.setCell ?_ ?_ _)|(with_reducible refine below_step (by assumption) ?_ ?_)))<;>first|(simp;done)|(simp;omega)|omega)|((refine fo1 hl.len ?_)<;>(first|assumption|(refine lastLater_no hz ?_;assumption)|(refine lastLater_yes hz ?_;assumption)))|((refine fo2 hl.len ?_ ?_)<;>(first|assumption|(refine lastLater_no hz ?_;assumption)|(refine lastLater_yes hz ?_;assumption)))|((refine fo3 hl.len ?_ ?_ ?_)<;>(first|assumption|(refine lastLater_no hz ?_;assumption)|(refine lastLater_yes hz ?_;assumption)))|((refine fo4 hl.len ?_ ?_ ?_ ?_)<;>(first|assumption|(refine lastLater_no hz ?_;assumption)|(refine lastLater_yes hz ?_;assumption)))|((refine fo5 hl.len ?_ ?_ ?_ ?_ ?_)<;>(first|assumption|(refine lastLater_no hz ?_;assumption)|(refine lastLater_yes hz ?_;assumption)))|((refine fo6 hl.len ?_ ?_ ?_ ?_ ?_ ?_)<;>(first|assumption|(refine lastLater_no hz ?_;assumption)|(refine lastLater_yes hz ?_;assumption)))|((refine fo7 hl.len ?_ ?_ ?_ ?_ ?_ ?_ ?_)<;>(first|assumption|(refine lastLater_no hz ?_;assumption)|(refine lastLater_yes hz ?_;assumption)))|((refine fo8 hl.len ?_ ?_ ?_ ?_ ?_ ?_ ?_)<;>(first|assumption|(refine lastLater_no hz ?_;assumption)|(refine lastLater_yes hz ?_;assumption)))
theorem follows_nil (A:Option Addr) (c:Nat) (hc0:c≤9223372036854775807) (xa xb xc xd xe xf xg xh xi xj:Int) (w:World):
 Calls Tryz.prog 82 #[.slice A 0 c,.agg #[.int .i64 xa,.int .i64 xb,.int .u8 xc,.int .i64 xd,.int .i64 xe,.int .i64 xf,.int .i64 xg,.int .i64 xh,.int .i64 xi,.int .i64 xj]] w
  fun e' w'=>e' = .returned (.int .i64 (follows [] ⟨xa,xb,xc,xd,xe,xf,xg,xh,xi,xj⟩))∧Below w.heap.size w w':=by
 have hl:Rd encTrace 10 w A 0 c []:=Rd.none_ A c hc0
 go_enter Tryz.func82,Tryz.ntmps82
 go_wp2_with (first
  | (go_at_call 18;refine (CheckTrace_any _ _ _ _ _ _ _ _ _ _ _).mono ?_;rintro e wC ⟨rfl,hbC⟩;obtain ⟨hccC,hffC⟩:=bcell hbC;have hzC:=hbC.size;(try simp only [World.size_alloc] at hzC);have:w.heap.size<wC.heap.size:=(by omega);have hlC:=(hl.alloc _).below hbC (by simp);have hpC:=pred1 ⟨xa,xb,xc,xd,xe,xf,xg,xh,xi,xj⟩ w.heap.size wC (by omega) (by rw [hccC _ _ (by first|omega|(simp;done)|(simp;omega))];simp))
  | (go_at_call 88;(with_reducible refine (some_any _ _ ent1 _ _ _ _ _ _ hlC hpC).mono ?_);rintro e wS ⟨rfl,hbS⟩;obtain ⟨hccS,hffS⟩:=bcell hbS;have hzS:=hbS.size;(try simp only [World.size_alloc,World.size_setCell,World.size_drew,World.heap_drewN] at hzS);have:w.heap.size<wS.heap.size:=(by omega);have hlS:=hlC.below hbS (Nat.le_refl _);have hpS:=pred2 ⟨xa,xb,xc,xd,xe,xf,xg,xh,xi,xj⟩ w.heap.size wS (by omega) (by rw [hccS _ _ (by first|omega|(simp;done)|(simp;omega)),hccC _ _ (by first|omega|(simp;done)|(simp;omega))];simp);clear hpC)
  | (go_at_call 88;(with_reducible refine (some_any _ _ ent2 _ _ _ _ _ _ (hlS.drewN _) (hpS.drewN _)).mono ?_);rintro e wT ⟨rfl,hbT⟩;obtain ⟨hccT,hffT⟩:=bcell hbT;have hzT:=hbT.size;(try simp only [World.heap_drewN] at hzT);have:w.heap.size<wT.heap.size:=(by omega);have hlT:=(hlS.drewN _).below hbT (Nat.le_refl _);have hpT:=pred3 ⟨xa,xb,xc,xd,xe,xf,xg,xh,xi,xj⟩ w.heap.size wT (by omega) (by rw [hccT _ _ (by first|omega|(simp;done)|(simp;omega)),World.cell?_drewN,hccS _ _ (by first|omega|(simp;done)|(simp;omega)),hccC _ _ (by first|omega|(simp;done)|(simp;omega))];simp);clear hpS)
  | (go_at_call 88;(with_reducible refine (some_any _ _ ent3 _ _ _ _ _ _ hlT hpT).mono ?_);rintro e wU ⟨rfl,hbU⟩;obtain ⟨hccU,hffU⟩:=bcell hbU;have hzU:=hbU.size;(try simp only [World.size_alloc,World.size_setCell,World.size_drew,World.heap_drewN] at hzU);have:w.heap.size<wU.heap.size:=(by omega);clear hpT)
  | go_quiet (fail))
 all_goals go_ret
 all_goals refine ⟨ret_int ?_,?_⟩
 all_goals first|((repeat' (first|(with_reducible assumption)|(with_reducible exact Below.refl _ _)|(with_reducible refine Below.drew ?_)|(with_reducible refine below_drewN' ?_ _)|(with_reducible refine Below.alloc ?_ ?_ _)|(with_reducible refine Below.setCell ?_ ?_ _)|(with_reducible refine below_step (by assumption) ?_ ?_)))<;>first|(simp;done)|(simp;omega)|omega)|((refine fo1 hl.len ?_)<;>(first|assumption|exact lastLater_nil|(simp;done)))|((refine fo2 hl.len ?_ ?_)<;>(first|assumption|exact lastLater_nil|(simp;done)))|((refine fo3 hl.len ?_ ?_ ?_)<;>(first|assumption|exact lastLater_nil|(simp;done)))|((refine fo4 hl.len ?_ ?_ ?_ ?_)<;>(first|assumption|exact lastLater_nil|(simp;done)))|((refine fo5 hl.len ?_ ?_ ?_ ?_ ?_)<;>(first|assumption|exact lastLater_nil|(simp;done)))|((refine fo6 hl.len ?_ ?_ ?_ ?_ ?_ ?_)<;>(first|assumption|exact lastLater_nil|(simp;done)))|((refine fo7 hl.len ?_ ?_ ?_ ?_ ?_ ?_ ?_)<;>(first|assumption|exact lastLater_nil|(simp;done)))|((refine fo8 hl.len ?_ ?_ ?_ ?_ ?_ ?_ ?_)<;>(first|assumption|exact lastLater_nil|(simp;done)))
theorem follows_any (A:Option Addr) (n c:Nat) (l:List Trace) (xa xb xc xd xe xf xg xh xi xj:Int) (w:World) (hl:Rd encTrace 10 w A n c l):
 Calls Tryz.prog 82 #[.slice A n c,.agg #[.int .i64 xa,.int .i64 xb,.int .u8 xc,.int .i64 xd,.int .i64 xe,.int .i64 xf,.int .i64 xg,.int .i64 xh,.int .i64 xi,.int .i64 xj]] w
  fun e' w'=>e' = .returned (.int .i64 (follows l ⟨xa,xb,xc,xd,xe,xf,xg,xh,xi,xj⟩))∧Below w.heap.size w w':=by
 rcases Nat.eq_zero_or_pos n with h0|h0
 · subst h0
   have:l = []:=List.eq_nil_of_length_eq_zero hl.len
   subst this
   exact follows_nil A c hl.cap.2 xa xb xc xd xe xf xg xh xi xj w
 · obtain ⟨b,off,z,rfl,hbw,hz,hcell⟩:=hl.one (i:=n-1) (by omega)
   exact follows_cons b off n c l xa xb xc xd xe xf xg xh xi xj w hl h0 z hbw (by rw [List.getLast?_eq_getElem?,hl.len];exact hz) (hcell 1 _ rfl)
theorem DeleteFunc_Trace (f:Nat) (lb:Array Value) (ef:∀ args w,(callFunc f args).run Tryz.prog w = .ok (.enter f args) w) (p:Trace→Bool) (A:Option Addr) (n c B:Nat) (l:List Trace) (w:World)
 (hown:Own encTrace 10 23 B w A n c l) (hn:n≤1000000) (I:World→Prop) (hI0:I w) (hI:∀ W W',I W→W.grownBy W' (blockOf A)→I W')
 (hp:∀ W (x:Trace),I W→Calls Tryz.prog f (#[.agg (encTrace x).toArray]++lb) W fun e w'=>e = .returned (.bool (p x))∧Below W.heap.size W w'):
 Calls Tryz.prog 85 #[.slice A n c,.func (.func f) #[] lb] w fun e w'=> ∃ m,e = .returned (.slice A m c)∧Own encTrace 10 23 B w' A m c (l.filter fun x=> !p x)∧w.grownBy w' (blockOf A):=by
 have hrd:=hown.rd lenTrace (by omega)
 have hpB:PredB Tryz.prog f lb (fun x=> .agg (encTrace x).toArray) p w:=fun W x hb=>
  (hp W x (hI w W hI0 ⟨hb.os,hb.tape,hb.output,hb.size,fun i hi _=>hb.block i hi⟩)).mono fun _ _ ⟨he,hb'⟩=>⟨he,hb.trans (hb'.mono hb.size)⟩
 have hIF:=IndexFunc_Trace f lb ef p A n c l w hrd hpB
 rcases hfi:l.findIdx? p with _|k0
 · have hall:∀ x∈l,p x=false:=by rw [List.findIdx?_eq_none_iff] at hfi;exact hfi
   have e1:idxI p l = -1:=by simp [idxI,hfi]
   rw [e1] at hIF
   have e2:(l.filter fun x=> !p x)=l:=List.filter_eq_self.2 fun x hx=>by simp [hall x hx]
   rw [e2]
   have H1:=Lib.hid hown
   clear hfi hall e1 e2 hpB hrd hown
   go_enter Tryz.func85,Tryz.ntmps85
   go_wp2_with (go_at_call 131;refine hIF.mono ?_;rintro e w1 ⟨rfl,hb1⟩)
   go_ret
   exact ⟨n,rfl,H1.out.below hb1 (Nat.le_refl _),⟨hb1.os,hb1.tape,hb1.output,hb1.size,fun i hi _=>hb1.block i hi⟩⟩
 · have hk0:k0<l.length∧∃ x,l[k0]? = some x∧p x=true∧∀ m y,m<k0→l[m]? = some y→p y=false:=by
    rw [List.findIdx?_eq_some_iff_getElem] at hfi
    obtain ⟨h1,h2,h3⟩:=hfi
    refine ⟨h1,l[k0],List.getElem?_eq_getElem h1,h2,fun m y hm hy=> ?_⟩
    have:=h3 m hm
    obtain ⟨_,rfl⟩:=List.getElem?_eq_some_iff.1 hy
    simpa using this
   obtain ⟨hkl,x0,hx0,hp0,hno⟩:=hk0
   have e1:idxI p l=(k0:Int):=by simp [idxI,hfi]
   rw [e1] at hIF
   have hln:=hown.len
   have HK:Hid (Kept p l l k0 (k0+1)):=Kept.start hx0 hp0 hno
   obtain ⟨g,rfl⟩:∃ g,A=some ⟨g,0,none⟩:=by
    rcases hown.form with ⟨_,h0,_⟩|⟨g,h,_⟩
    · omega
    · exact ⟨g,h⟩
   have hne1:((k0:Int) == -1)=false:=beq_eq_false_iff_ne.2 (by omega)
   have hcap:=hown.cap
   have hcm:c≤9223372036854775807:=by have:=hcap.2;unfold maxLen at this;exact this
   have hkn:k0<n:=by omega
   have H1:=Lib.hid hown
   have HLN:=Lib.hid hln
   clear hfi e1 hpB hrd hown hno hx0 hp0 hln hkl
   go_enter Tryz.func85,Tryz.ntmps85
   go_wp2_with (go_at_call 131;refine hIF.mono ?_;rintro e w1 ⟨rfl,hb1⟩)
   have H2:=Lib.hid (H1.out.below hb1 (Nat.le_refl _))
   have hg1:w.grownBy w1 (some g):=⟨hb1.os,hb1.tape,hb1.output,hb1.size,fun i hi _=>hb1.block i hi⟩
   have hI1:=hI w w1 hI0 hg1
   go_loopw [5,6] (fun s5 s6 wr=> ∃ (i j:Nat) (xs:List Trace),s5 = .int .i64 i∧s6 = .int .i64 j∧j≤n∧Hid (Kept p l xs i j)∧Hid (Own encTrace 10 23 B wr (some ⟨g,0,none⟩) n c xs)∧Hid (w.grownBy wr (some g))∧I wr) (fun _ s6 _=>n-(intOf s6).toNat)
   case atStart=>exact ⟨k0,k0+1,l,rfl,by go_num,by omega,HK,H2,hg1,hI1⟩
   case round=>
    obtain ⟨i,j,xs,rfl,rfl,hjn,hK,hO,hG,hIr⟩:=hrel
    have hij:=hK.out.ij
    have hgl:=hO.out.lt
    by_cases hlt:j<n
    · have hxl:j<xs.length:=by rw [hO.out.len];exact hlt
      obtain ⟨x,hx⟩:∃ x,xs[j]? = some x:=⟨_,List.getElem?_eq_getElem hxl⟩
      have hlx:l[j]? = some x:=by rw [←hK.out.high j (Nat.le_refl _)];exact hx
      obtain ⟨b,hbg⟩:∃ b,b=g:=⟨g,rfl⟩
      have hcj:=hO.out.cells lenTrace hx
      have d0:wr.cell? ⟨g,j * 10,none⟩=some (.int .i64 x.id):=hcj 0 _ rfl
      have d1:wr.cell? ⟨g,j * 10+1,none⟩=some (.int .i64 x.known):=hcj 1 _ rfl
      have d2:wr.cell? ⟨g,j * 10+2,none⟩=some (.int .u8 x.kind):=hcj 2 _ rfl
      have d3:wr.cell? ⟨g,j * 10+3,none⟩=some (.int .i64 x.pit):=hcj 3 _ rfl
      have d4:wr.cell? ⟨g,j * 10+4,none⟩=some (.int .i64 x.layer):=hcj 4 _ rfl
      have d5:wr.cell? ⟨g,j * 10+5,none⟩=some (.int .i64 x.lower):=hcj 5 _ rfl
      have d6:wr.cell? ⟨g,j * 10+6,none⟩=some (.int .i64 x.low):=hcj 6 _ rfl
      have d7:wr.cell? ⟨g,j * 10+7,none⟩=some (.int .i64 x.high):=hcj 7 _ rfl
      have d8:wr.cell? ⟨g,j * 10+8,none⟩=some (.int .i64 x.cost):=hcj 8 _ rfl
      have d9:wr.cell? ⟨g,j * 10+9,none⟩=some (.int .i64 x.void):=hcj 9 _ rfl
      have hyl:i<xs.length:=by omega
      obtain ⟨y,hy⟩:∃ y,xs[i]? = some y:=⟨_,List.getElem?_eq_getElem hyl⟩
      have hci:=hO.out.cells lenTrace hy
      have e0:wr.cell? ⟨g,i * 10,none⟩=some (.int .i64 y.id):=hci 0 _ rfl
      have e1:wr.cell? ⟨g,i * 10+1,none⟩=some (.int .i64 y.known):=hci 1 _ rfl
      have e2:wr.cell? ⟨g,i * 10+2,none⟩=some (.int .u8 y.kind):=hci 2 _ rfl
      have e3:wr.cell? ⟨g,i * 10+3,none⟩=some (.int .i64 y.pit):=hci 3 _ rfl
      have e4:wr.cell? ⟨g,i * 10+4,none⟩=some (.int .i64 y.layer):=hci 4 _ rfl
      have e5:wr.cell? ⟨g,i * 10+5,none⟩=some (.int .i64 y.lower):=hci 5 _ rfl
      have e6:wr.cell? ⟨g,i * 10+6,none⟩=some (.int .i64 y.low):=hci 6 _ rfl
      have e7:wr.cell? ⟨g,i * 10+7,none⟩=some (.int .i64 y.high):=hci 7 _ rfl
      have e8:wr.cell? ⟨g,i * 10+8,none⟩=some (.int .i64 y.cost):=hci 8 _ rfl
      have e9:wr.cell? ⟨g,i * 10+9,none⟩=some (.int .i64 y.void):=hci 9 _ rfl
      have hfr:∀ o,wr.frozen? ⟨g,o,none⟩=false:=fun o=>hO.out.free o
      have hin:i<n:=by omega
      have hcall:=fun W hW=>hp W x hW
      simp only [encTrace] at hcall
      have HX:=Lib.hid hx
      have HLX:=Lib.hid hlx
      have HP:=Lib.hid hp
      have HC:=Lib.hid hcall
      have HII:=Lib.hid hI
      have HIr:=Lib.hid hIr
      have hg2:g<wr.heap.size:=hgl.2
      clear hx hlx hcj hci hy hp hcall hI hI0 hI1 hIr hgl hIF
      go_wp2_with (fail)
      refine (HC.out _ (HII.out wr _ HIr.out (World.grownBy_alloc wr _ _))).mono ?_
      rintro e w2 ⟨rfl,hb2⟩
      obtain ⟨hcc2,hff2⟩:=bcell hb2;have hz2:=hb2.size;(try simp only [World.size_alloc] at hz2)
      have q1:g<w2.heap.size:=by omega
      have q2:wr.heap.size<w2.heap.size:=by omega
      have H3:=Lib.hid ((hO.out.alloc (.cells #[.int .i64 x.id,.int .i64 x.known,.int .u8 x.kind,.int .i64 x.pit,.int .i64 x.layer,.int .i64 x.lower,.int .i64 x.low,.int .i64 x.high,.int .i64 x.cost,.int .i64 x.void] 23)).below hb2 (Nat.le_refl _))
      have hg3:w.grownBy w2 (some g):=by
       refine hG.out.trans ((World.grownBy_alloc wr _ _).trans ⟨hb2.os,hb2.tape,hb2.output,hb2.size,fun i hi _=>hb2.block i hi⟩)
      have HG3:=Lib.hid hg3
      clear hg3
      have HI2:Hid (I w2):=HII.out wr _ HIr.out ((World.grownBy_alloc wr _ _).trans ⟨hb2.os,hb2.tape,hb2.output,hb2.size,fun i hi _=>hb2.block i hi⟩)
      cases hq:p x with
      | true=>
        go_wp2
        go_roundw
        case rel=>exact ⟨i,j+1,xs,rfl,by go_num,by omega,hK.out.skip HLX.out hq,H3.out,HG3.out,HI2.out⟩
        case measure=>simp [intOf];omega
      | false=>
        go_wp2
        have hset:=H3.out.set lenTrace hin x
        go_roundw
        case rel=>exact ⟨i+1,j+1,xs.set i x,by go_num,by go_num,by omega,hK.out.keep HLX.out hq,hset.1,HG3.out.trans hset.2,HII.out _ _ HI2.out hset.2⟩
        case measure=>simp [intOf];omega
    · have:j=n:=by omega
      subst this
      have hi0:i<j:=hij
      have hfr:∀ o,wr.frozen? ⟨g,o,none⟩=false:=fun o=>hO.out.free o
      have hcl:∀ ty,_:=fun ty=>run_clear_row elTrace wr ty (.agg #[.int .i64 0,.int .i64 0,.int .u8 0,.int .i64 0,.int .i64 0,.int .i64 0,.int .i64 0,.int .i64 0,.int .i64 0,.int .i64 0]) (by kernel_rfl) (by simp [Value.cells,Value.oneCell']) g (i * 10) (j-i) (c-i) (by omega) (fun t ht=>by
       have hrow:=hO.out.own.cellAt (i * 10+t) (by omega)
       rw [hrow]
       have hl2:(xs.flatMap encTrace).length=j * 10:=by rw [flatMap_len lenTrace,hO.out.len]
       rw [List.getElem?_eq_getElem (by omega)];rfl) (fun t _=>hfr _)
      have hcl1:=fun ty=>(hcl ty).1
      have hvl:=(hcl 0).2
      generalize (Builtin.zeroCells (Value.agg #[.int .i64 0,.int .i64 0,.int .u8 0,.int .i64 0,.int .i64 0,.int .i64 0,.int .i64 0,.int .i64 0,.int .i64 0,.int .i64 0]).cells (j-i)).toList=zs at hcl1 hvl
      have hcut:=hO.out.cut lenTrace (Nat.le_of_lt hi0) zs (by omega)
      have HCUT:=Lib.hid hcut
      have hkd:Kept p l xs i l.length:=by rw [HLN.out];exact hK.out
      have HKD:=Lib.hid hkd.done
      clear hkd
      clear hcl hcut hvl
      go_wp2
      go_ret
      refine ⟨i,rfl,?_,hG.out.trans HCUT.out.2⟩
      have h5:=HCUT.out.1
      rw [HKD.out] at h5
      exact h5
def pv (known:Int) (x v:Trace):Bool:=(decide (v.kind=4)&&decide (v.void=x.id))&&decide (v.known≤known)
def pc (l:List Trace) (known:Int) (x:Trace):Bool:=(decide (x.kind=4)||decide (known<x.known))||l.any (pv known x)
def counting (l:List Trace) (known:Int):List Trace:=l.filter fun x=> !pc l known x
theorem entc1:∀ args w,(callFunc 87 args).run Tryz.prog w = .ok (.enter 87 args) w:=enters_of Tryz.func87 (by kernel_rfl) rfl
theorem entc2:∀ args w,(callFunc 89 args).run Tryz.prog w = .ok (.enter 89 args) w:=enters_of Tryz.func89 (by kernel_rfl) rfl
theorem predv (x:Trace) (known:Int) (bx bk:Nat) (w:World) (hlt:bx<w.heap.size) (hlk:bk<w.heap.size) (h0:w.cell? ⟨bx,0,none⟩=some (.int .i64 x.id)) (h1:w.cell? ⟨bk,0,none⟩=some (.int .i64 known)):
 PredB Tryz.prog 89 #[.pointer (some ⟨bx,0,none⟩),.pointer (some ⟨bk,0,none⟩)] (fun x=> .agg (encTrace x).toArray) (pv known x) w:=by
 intro W y hb
 have c0:W.cell? ⟨bx,0,none⟩=some (.int .i64 x.id):=(hb.cell (p:=⟨bx,0,none⟩) hlt).trans h0
 have c1:W.cell? ⟨bk,0,none⟩=some (.int .i64 known):=(hb.cell (p:=⟨bk,0,none⟩) hlk).trans h1
 have hlt2:bx<W.heap.size:=by have:=hb.size;omega
 have hlt3:bk<W.heap.size:=by have:=hb.size;omega
 simp only [encTrace,List.append_toArray,List.cons_append,List.nil_append]
 by_cases hq:y.kind=4
 · by_cases hr:y.void=x.id
   all_goals
    go_enter Tryz.func89,Tryz.ntmps89
    go_wp2
    go_ret
    exact ⟨by simp [pv,hq,hr],hb.alloc hb.size _⟩
 · go_enter Tryz.func89,Tryz.ntmps89
   go_wp2
   go_ret
   exact ⟨by simp [pv,hq],hb.alloc hb.size _⟩
theorem Rd.grown {α:Type} {enc:α→List Value} {k n c:Nat} {w w':World} {A:Option Addr} {xs:List α} (h:Rd enc k w A n c xs) {row:Option Nat} (hg:w.grownBy w' row) (hne:0<n→∀ b,blockOf A=some b→row≠some b):Rd enc k w' A n c xs:=
 ⟨h.len,h.big,h.cap,fun hn=>by
   obtain ⟨b,off,rfl,hlt,hc⟩:=h.at_ hn
   exact ⟨b,off,rfl,Nat.lt_of_lt_of_le hlt hg.size,fun i x hx j u hu=>hg.cell (hc i x hx j u hu) (fun e=>hne hn b rfl e.symm)⟩⟩
structure CountAt (W:World) (A:Option Addr) (n c:Nat) (l:List Trace) (known:Int) (bl bk:Nat):Prop where
 hl:Rd encTrace 10 W A n c l
 ll:bl<W.heap.size
 lk:bk<W.heap.size
 cl:W.cell? ⟨bl,0,none⟩=some (.slice A n c)
 ck:W.cell? ⟨bk,0,none⟩=some (.int .i64 known)
theorem countpred (A:Option Addr) (n c:Nat) (l:List Trace) (known:Int) (bl bk:Nat) (w:World) (x:Trace) (h:CountAt w A n c l known bl bk):
 Calls Tryz.prog 87 #[.agg (encTrace x).toArray,.pointer (some ⟨bk,0,none⟩),.pointer (some ⟨bl,0,none⟩)] w fun e w'=>e = .returned (.bool (pc l known x))∧Below w.heap.size w w':=by
 obtain ⟨hl,ll,lk,cl,ck⟩:=h
 simp only [encTrace]
 by_cases hq:x.kind=4
 · go_enter Tryz.func87,Tryz.ntmps87
   go_wp2
   go_ret
   exact ⟨by simp [pc,hq],(Below.refl _ _).alloc (Nat.le_refl _) _⟩
 · by_cases hr:known<x.known
   · go_enter Tryz.func87,Tryz.ntmps87
     go_wp2
     go_ret
     exact ⟨by simp [pc,hq,hr],(Below.refl _ _).alloc (Nat.le_refl _) _⟩
   · have hW:∃ W1,W1=w.alloc (.cells #[.int .i64 x.id,.int .i64 x.known,.int .u8 x.kind,.int .i64 x.pit,.int .i64 x.layer,.int .i64 x.lower,.int .i64 x.low,.int .i64 x.high,.int .i64 x.cost,.int .i64 x.void] 23):=⟨_,rfl⟩
     have hpv:=predv x known w.heap.size bk (w.alloc (.cells #[.int .i64 x.id,.int .i64 x.known,.int .u8 x.kind,.int .i64 x.pit,.int .i64 x.layer,.int .i64 x.lower,.int .i64 x.low,.int .i64 x.high,.int .i64 x.cost,.int .i64 x.void] 23)) (by simp) (by simp;omega) (by simp) (by rw [World.cell?_alloc_lt w _ _ lk];exact ck)
     clear hW
     go_enter Tryz.func87,Tryz.ntmps87
     go_wp2_with (go_at_call 88;refine (some_any _ _ entc2 _ _ _ _ _ _ (hl.alloc _) hpv).mono ?_;rintro e w2 ⟨rfl,hb2⟩;have hz2:=hb2.size)
     go_ret
     refine ⟨?_,(by ((repeat' (first|(with_reducible assumption)|(with_reducible exact Below.refl _ _)|(with_reducible refine Below.drew ?_)|(with_reducible refine below_drewN' ?_ _)|(with_reducible refine Below.alloc ?_ ?_ _)|(with_reducible refine Below.setCell ?_ ?_ _)|(with_reducible refine below_step (by assumption) ?_ ?_)))<;>first|(simp;done)|(simp;omega)|omega))⟩
     have hr':¬known<x.known:=by omega
     have hq':(x.kind==4)=false:=by simpa using hq
     simp [pc,hq,hr',hq']
theorem counting_any (A:Option Addr) (n c:Nat) (l:List Trace) (known:Int) (w:World) (hl:Rd encTrace 10 w A n c l) (hsm:n≤1000000):
 Calls Tryz.prog 53 #[.slice A n c,.int .i64 known] w fun e w'=> ∃ A' m c',e = .returned (.slice A' m c')∧Own encTrace 10 23 w.heap.size w' A' m c' (counting l known)∧Below w.heap.size w w':=by
 go_enter Tryz.func53,Tryz.ntmps53
 have hl2:=(hl.alloc (.cells #[.slice A n c] 31)).alloc (.cells #[.int .i64 known] 3)
 go_wp2_with (fail)
 refine (Clone_Trace A n c l _ hl2 hsm).mono ?_
 rintro e w1 ⟨A1,c1,rfl,hown1,hb1⟩
 obtain ⟨hcc1,hff1⟩:=bcell hb1;have hz1:=hb1.size;(try simp only [World.size_alloc] at hz1)
 have q0:w.heap.size<w1.heap.size:=by omega
 have q1:w.heap.size+1<w1.heap.size:=by omega
 have hI1:CountAt w1 A n c l known w.heap.size (w.heap.size+1):=
  ⟨hl2.below hb1 (Nat.le_refl _),q0,q1,by rw [hcc1 _ _ (by first|omega|(simp;done)|(simp;omega))];simp,by rw [hcc1 _ _ (by first|omega|(simp;done)|(simp;omega))];simp⟩
 have hAb:0<n→∀ b,blockOf A=some b→b<w.heap.size:=by
  intro hn b hb
  obtain ⟨b',off,rfl,hlt,_⟩:=hl.at_ hn
  simp [blockOf] at hb
  omega
 have hA1:∀ b,blockOf A1=some b→w.heap.size+2≤b:=by
  intro b hb
  rcases hown1.form with ⟨rfl,_⟩|⟨g,rfl,hg,_⟩
  · simp [blockOf] at hb
  · simp [blockOf] at hb hg
    omega
 have hIst:∀ W W',CountAt W A n c l known w.heap.size (w.heap.size+1)→W.grownBy W' (blockOf A1)→CountAt W' A n c l known w.heap.size (w.heap.size+1):=by
  intro W W' h hg
  have hs:=hg.size
  refine ⟨h.hl.grown hg ?_,by have:=h.ll;omega,by have:=h.lk;omega,hg.cell h.cl ?_,hg.cell h.ck ?_⟩
  · intro hn b hb he
    have:=hAb hn b hb
    have:=hA1 b he
    omega
  · intro he
    have:=hA1 _ he.symm
    dsimp only at this
    omega
  · intro he
    have:=hA1 _ he.symm
    dsimp only at this
    omega
 have hdel:=DeleteFunc_Trace 87 #[.pointer (some ⟨w.heap.size+1,0,none⟩),.pointer (some ⟨w.heap.size,0,none⟩)] entc1 (pc l known) A1 n c1 _ l w1 hown1 hsm _ hI1 hIst (fun W x h=>countpred A n c l known w.heap.size (w.heap.size+1) W x h)
 have HD:=Lib.hid hdel
 clear hdel hIst hAb hI1 hown1 hl2
 go_wp2_with (fail)
 refine HD.out.mono ?_
 rintro e w2 ⟨m,rfl,hown2,hg2⟩
 go_wp2
 go_ret
 refine ⟨A1,m,c1,rfl,hown2.mono (by simp;omega),?_⟩
 exact (below_step hb1 (by simp;omega) (((Below.refl _ _).alloc (Nat.le_refl _) _).alloc (by simp) _)).grown hg2 (by omega) (fun b hb=>by have:=hA1 b hb;omega)
def checkFrom (l:List Trace):Nat→Nat→Int×Int
 | 0,_=>(0,0)
 | f+1,i=>match l[i]? with
   | none=>(0,0)
   | some x=>if follows (l.take i) x≠0 then ((i:Int),follows (l.take i) x) else checkFrom l f (i+1)
def check (l:List Trace):Int×Int:=checkFrom l l.length 0
theorem check_hit {l:List Trace} {k n:Nat} {x:Trace} (hx:l[k]? = some x) (h:follows (l.take k) x≠0) (hlt:k<n) (hc:check l=checkFrom l (n-k) k):check l=((k:Int),follows (l.take k) x):=by
 rw [hc,show n-k=(n-(k+1))+1 by omega,checkFrom,hx]
 simp only [if_pos h]
theorem check_step {l:List Trace} {k n:Nat} {x:Trace} (hx:l[k]? = some x) (h:follows (l.take k) x=0) (hlt:k<n) (hc:check l=checkFrom l (n-k) k):check l=checkFrom l (n-(k+1)) (k+1):=by
 rw [hc,show n-k=(n-(k+1))+1 by omega,checkFrom,hx]
 simp only [h,ne_eq,not_true_eq_false,if_false]
theorem Check_any (A:Option Addr) (n c:Nat) (l:List Trace) (w:World) (hl:Rd encTrace 10 w A n c l):
 Calls Tryz.prog 51 #[.slice A n c] w
  fun e' w'=>e' = .returned (.tuple #[.int .i64 (check l).1,.int .i64 (check l).2])∧Below w.heap.size w w':=by
 have hbig:=hl.big
 have hlen:=hl.len
 have HL:=Lib.hid hlen
 clear hlen
 go_enter Tryz.func51,Tryz.ntmps51
 go_wp2
 go_loopw [9] (fun i wr=> ∃ k:Nat,k≤n∧i = .int .i64 k∧Below w.heap.size w wr∧Hid (check l=checkFrom l (n-k) k)) (fun i _=>n-(intOf i).toNat)
 case atStart=>exact ⟨0,Nat.zero_le _,rfl,Below.refl _ _,(show _=_ by unfold check;rw [HL.out];rfl)⟩
 case round=>
  obtain ⟨k,hk,rfl,hb,hck⟩:=hrel
  have hzr:=hb.size
  by_cases hlt:k<n
  · have hlw:=hl.below hb (Nat.le_refl _)
    obtain ⟨b,off,x,rfl,hbw,hx,hcell⟩:=hlw.one hlt
    have c0:wr.cell? ⟨b,off+k * 10,none⟩=some (.int .i64 x.id):=hcell 0 _ rfl
    have c1:wr.cell? ⟨b,off+k * 10+1,none⟩=some (.int .i64 x.known):=hcell 1 _ rfl
    have c2:wr.cell? ⟨b,off+k * 10+2,none⟩=some (.int .u8 x.kind):=hcell 2 _ rfl
    have c3:wr.cell? ⟨b,off+k * 10+3,none⟩=some (.int .i64 x.pit):=hcell 3 _ rfl
    have c4:wr.cell? ⟨b,off+k * 10+4,none⟩=some (.int .i64 x.layer):=hcell 4 _ rfl
    have c5:wr.cell? ⟨b,off+k * 10+5,none⟩=some (.int .i64 x.lower):=hcell 5 _ rfl
    have c6:wr.cell? ⟨b,off+k * 10+6,none⟩=some (.int .i64 x.low):=hcell 6 _ rfl
    have c7:wr.cell? ⟨b,off+k * 10+7,none⟩=some (.int .i64 x.high):=hcell 7 _ rfl
    have c8:wr.cell? ⟨b,off+k * 10+8,none⟩=some (.int .i64 x.cost):=hcell 8 _ rfl
    have c9:wr.cell? ⟨b,off+k * 10+9,none⟩=some (.int .i64 x.void):=hcell 9 _ rfl
    have hcap:=hlw.cap
    have hkc:k≤c:=by omega
    have hkc':(k:Int)≤(c:Int):=by omega
    have hlt':=(hlw.take (m:=k) (c':=k) (by omega) (by omega)).alloc (.cells #[.int .i64 x.id,.int .i64 x.known,.int .u8 x.kind,.int .i64 x.pit,.int .i64 x.layer,.int .i64 x.lower,.int .i64 x.low,.int .i64 x.high,.int .i64 x.cost,.int .i64 x.void] 23)
    clear hcell hl hlw
    have HX:=Lib.hid hx
    clear hx
    go_wp2_with (fail)
    go_region_with (go_at_call 82;refine (follows_any _ _ _ _ _ _ _ _ _ _ _ _ _ _ _ hlt'.drew).mono ?_;rintro e wF ⟨rfl,hbF⟩)
    all_goals go_wp2
    · have hne:(follows (l.take k) x != 0)=true:= ‹_›
      go_ret2
      refine ⟨?_,(by ((repeat' (first|(with_reducible assumption)|(with_reducible exact Below.refl _ _)|(with_reducible refine Below.drew ?_)|(with_reducible refine below_drewN' ?_ _)|(with_reducible refine Below.alloc ?_ ?_ _)|(with_reducible refine Below.setCell ?_ ?_ _)|(with_reducible refine below_step (by assumption) ?_ ?_)))<;>first|(simp;done)|(simp;omega)|omega))⟩
      have:=check_hit HX.out (by simpa using hne) (n:=n) hlt hck.out
      rw [this]
      rfl
    · have hne:(follows (l.take k) x != 0)=false:= ‹_›
      have hck':=check_step HX.out (by simpa using hne) (n:=n) hlt hck.out
      go_roundw
      case rel=>exact ⟨k+1,by omega,by go_num,(by ((repeat' (first|(with_reducible assumption)|(with_reducible exact Below.refl _ _)|(with_reducible refine Below.drew ?_)|(with_reducible refine below_drewN' ?_ _)|(with_reducible refine Below.alloc ?_ ?_ _)|(with_reducible refine Below.setCell ?_ ?_ _)|(with_reducible refine below_step (by assumption) ?_ ?_)))<;>first|(simp;done)|(simp;omega)|omega)),hck'⟩
      case measure=>simp [intOf];omega
  · have:k=n:=by omega
    subst this
    go_wp2
    go_ret2
    refine ⟨?_,hb⟩
    have:=hck.out
    rw [Nat.sub_self] at this
    rw [this]
    rfl
end Go.Proofs.YtejjplhknacoiaaGreatDoor
end
