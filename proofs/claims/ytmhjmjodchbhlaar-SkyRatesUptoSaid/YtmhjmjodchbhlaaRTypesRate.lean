/- The types of a sky as plain data. -/
import Derived.Test.YtmhjmjodchbhlaaRPathPath
set_option linter.unusedVariables false
set_option linter.unusedSimpArgs false
namespace Go.Proofs.YtmhjmjodchbhlaaR.TypesRate
open Go.Ev Go.Proofs.YtmhjmjodchbhlaaR.PullPull
open Go.Proofs.YtmhjmjodchbhlaaR.PathPath (Bod bD cBod)
structure Star where
  id : Int
  p : Vec
  rate : Int
  wave : List Int
  period : Int
  start : Int
  stop : Int
structure Gal where
  id : Int
  p : Vec
  rate : Int
  wide : Int
  high : Int
structure Sky where
  back : Int
  stars : List Star
  gals : List Gal
  bods : List Bod
  home : Bod
def Star.D (s : Star) : D := .agg 79 [.int .i64 s.id, vD s.p, .int .i64 s.rate, .sl 37 (s.wave.map (.int .i64)), .int .i64 s.period, .int .i64 s.start, .int .i64 s.stop]
def Gal.D (g : Gal) : D := .agg 76 [.int .i64 g.id, vD g.p, .int .i64 g.rate, .int .i64 g.wide, .int .i64 g.high]
def Sky.D (s : Sky) : D := .agg 47 [.int .i64 s.back, .sl 79 (s.stars.map Star.D), .sl 76 (s.gals.map Gal.D), .sl 39 (s.bods.map bD), bD s.home]
def cStar : Cod Star := cIso (fun s : Star => (s.id, s.p, s.rate, s.wave, s.period, s.start, s.stop)) (fun x y h => by cases x; cases y; simp at h; simp [h])
  (cA 79 (cCons (cI .i64) (cCons cV (cCons (cI .i64) (cCons (cL 37 (cI .i64)) (cCons (cI .i64) (cCons (cI .i64) (cOne (cI .i64)))))))))
def cGal : Cod Gal := cIso (fun g : Gal => (g.id, g.p, g.rate, g.wide, g.high)) (fun x y h => by cases x; cases y; simp at h; simp [h])
  (cA 76 (cCons (cI .i64) (cCons cV (cCons (cI .i64) (cCons (cI .i64) (cOne (cI .i64)))))))
def cSky : Cod Sky := cIso (fun s : Sky => (s.back, s.stars, s.gals, s.bods, s.home)) (fun x y h => by cases x; cases y; simp at h; simp [h])
  (cA 47 (cCons (cI .i64) (cCons (cL 79 cStar) (cCons (cL 76 cGal) (cCons (cL 39 cBod) (cOne cBod))))))
theorem cStar_e (s : Star) : cStar.e s = s.D := rfl
theorem cGal_e (g : Gal) : cGal.e g = g.D := rfl
theorem cSky_e (s : Sky) : cSky.e s = s.D := rfl
end Go.Proofs.YtmhjmjodchbhlaaR.TypesRate
